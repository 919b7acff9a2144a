/- The parts of a proof: V13a, V15f, V15p, Lp2, V08, V07, V06, V05, Lp3, Pt, P05, Pd, P06, P07, P08, P10, P10b, P12s, P12, P10P, P12P, P15z, P15a, PLeq, PLeqP -/
import Derived.Test.YtcceddpmmgabjaaGreatQt6
set_option linter.unusedVariables false
set_option linter.unusedSimpArgs false
open Go.Proofs.Tryz
section
namespace Go.Lz
open Go.Proofs
attribute [-go_sem] zl6 g_b gd_b
set_option maxRecDepth 100000
set_option maxHeartbeats 4000000
noncomputable section
def zb8 (s:List xtv) (f:(xtv->Option Bool)):Nat->Option ((Nat)⊕(Int⊕Unit))
 |I=>if(I:Int)<(s.length:Int)then((s[I]?).bind fun U=>(f U).bind fun aa=>if aa=true then(some (.inr (.inl ((I:Int)))))else(some (.inl (I+1))))else(some (.inr (.inr (()))))
def zcr (s:List xtv) (f:(xtv->Option Bool)):Option Int:=
 (loop (zb8 s f) 0).bind (fun I=>match I with|(.inl U)=>some U|(.inr ())=>some (-1))
def zi2 (U:(xtv->Option Str)) (c1:Str) (x:xtv):Option Bool:=
 (U x).bind fun I=>some (decide (I=c1))
def zkm (l:List xtv) (name:Str) (of:(xtv->Option Str)):Option Int:=
 (zcr l (zi2 of name)).bind fun I=>some I
def zr6 (v:xtv):Option Str:=
 some v.Name
def zlo (p:xtm) (name:Str):Option Int:=
 (zkm p.Vars name zr6).bind fun I=>some I
def zbx (s:List xt1) (f:(xt1->Option Bool)):Nat->Option ((Nat)⊕(Int⊕Unit))
 |I=>if(I:Int)<(s.length:Int)then((s[I]?).bind fun U=>(f U).bind fun aa=>if aa=true then(some (.inr (.inl ((I:Int)))))else(some (.inl (I+1))))else(some (.inr (.inr (()))))
def zb5 (s:List xt1) (f:(xt1->Option Bool)):Option Int:=
 (loop (zbx s f) 0).bind (fun I=>match I with|(.inl U)=>some U|(.inr ())=>some (-1))
def zh1 (U:(xt1->Option Str)) (c1:Str) (x:xt1):Option Bool:=
 (U x).bind fun I=>some (decide (I=c1))
def zi3 (l:List xt1) (name:Str) (of:(xt1->Option Str)):Option Int:=
 (zb5 l (zh1 of name)).bind fun I=>some I
def zow (b:xt1):Option Str:=
 some b.Name
def zly (p:xtm) (name:Str):Option Int:=
 (zi3 p.Blocks name zow).bind fun I=>some I
def zb0 (s:List xt2) (f:(xt2->Option Bool)):Nat->Option ((Nat)⊕(Int⊕Unit))
 |I=>if(I:Int)<(s.length:Int)then((s[I]?).bind fun U=>(f U).bind fun aa=>if aa=true then(some (.inr (.inl ((I:Int)))))else(some (.inl (I+1))))else(some (.inr (.inr (()))))
def zce (s:List xt2) (f:(xt2->Option Bool)):Option Int:=
 (loop (zb0 s f) 0).bind (fun I=>match I with|(.inl U)=>some U|(.inr ())=>some (-1))
def zir (U:(xt2->Option Str)) (c1:Str) (x:xt2):Option Bool:=
 (U x).bind fun I=>some (decide (I=c1))
def zjf (l:List xt2) (name:Str) (of:(xt2->Option Str)):Option Int:=
 (zce l (zir of name)).bind fun I=>some I
def zp2 (s:xt2):Option Str:=
 some s.Name
def znk (p:xtm) (name:Str):Option Int:=
 (zjf p.Sites name zp2).bind fun I=>some I
def zk9 (l:xtq) (a:Int):Option Bool:=
 if 0<=a then(some (decide (a<(l.Names.length:Int))))else(some false)
def zj3 (l:xtq) (af:Int):((List Bool)×(List Int)×Nat)->Option (((List Bool)×(List Int)×Nat)⊕((List Bool)×(List Int)))
 |(U,I,aa)=>if(aa:Int)<(l.Below.length:Int)then((l.Below[aa]?).bind fun ab=>if ab.a0=af then((zk9 l ab.a1).bind fun ad=>if ad=true then((idx U ab.a1).bind fun ae=>if ae=true then(some (.inl (U,I,(aa+1))))else(need ((I.length+1)*8<=140737488355328) (some (.inl ((U.set ab.a1.toNat true),(I++[ab.a1]),(aa+1))))))else(some (.inl (U,I,(aa+1)))))else(some (.inl (U,I,(aa+1)))))else(some (.inr ((U,I))))
def zj4 (l:xtq):((List Bool)×(List Int))->Option (((List Bool)×(List Int))⊕((List Bool)×(List Int)))
 |(U,I)=>if 0<(I.length:Int)then((I[0]?).bind fun ad=>need ((1:Int)<=(I.length:Int)) ((loop (zj3 l ad) (U,(I.drop 1),0)).bind (fun(ab,aa)=>some (.inl (ab,aa)))))else(some (.inr ((U,I))))
def zj1 (l:xtq) (a:Int):Option (List Bool):=
 need (0<=(l.Names.length:Int)/\1*(l.Names.length:Int)<=140737488355328) ((idx (List.replicate l.Names.length false) a).bind fun aa=>(loop (zj4 l) (((List.replicate l.Names.length false).set a.toNat true),[a])).bind (fun(I,U)=>some I))
def zi8 (l:xtq) (of:(Int->Option Bool)) (ahead:(Int->Int->Option Bool)) (U:Nat):Nat->Option ((Nat)⊕(Unit⊕Unit))
 |I=>if(I:Int)<(l.Names.length:Int)then((of (I:Int)).bind fun aa=>if aa=true then((ahead (U:Int) (I:Int)).bind fun ab=>if ab=true then(some (.inl (I+1)))else(some (.inr (.inl (())))))else(some (.inl (I+1))))else(some (.inr (.inr (()))))
def zk4 (l:xtq) (of:(Int->Option Bool)) (ahead:(Int->Int->Option Bool)):Nat->Option ((Nat)⊕(Int⊕Unit))
 |I=>if(I:Int)<(l.Names.length:Int)then((of (I:Int)).bind fun U=>if U=true then((loop (zi8 l of ahead I) 0).bind (fun aa=>match aa with|(.inl ())=>some (.inl (I+1))|(.inr ())=>some (.inr (.inl ((I:Int))))))else(some (.inl (I+1))))else(some (.inr (.inr (()))))
def zmd (l:xtq) (of:(Int->Option Bool)) (ahead:(Int->Int->Option Bool)):Option Int:=
 (loop (zk4 l of ahead) 0).bind (fun U=>match U with|(.inl I)=>some I|(.inr ())=>some (-1))
def znw (c0:List Bool) (c1:List Bool) (c:Int):Option Bool:=
 (idx c0 c).bind fun I=>if I=true then((idx c1 c).bind fun U=>some U)else(some false)
def znn (l:xtq) (a:Int) (b:Int):Option Bool:=
 (zk9 l a).bind fun I=>if I=true then((zk9 l b).bind fun U=>if U=true then((zj1 l a).bind fun aa=>(idx aa b).bind fun ab=>some ab)else(some false))else(some false)
def znv (U:xtq) (c:Int) (d:Int):Option Bool:=
 (znn U c d).bind fun I=>some I
def zme (l:xtq) (a:Int) (b:Int):Option Int:=
 (zk9 l a).bind fun I=>if I=true then((zk9 l b).bind fun U=>if U=true then((zj1 l a).bind fun aa=>(zj1 l b).bind fun ab=>(zmd l (znw aa ab) (znv l)).bind fun ad=>some ad)else(some (-1)))else(some (-1))
def ztj (d:flow_desk):((List Int)×Nat)->Option (((List Int)×Nat)⊕(List Int))
 |(I,U)=>if(U:Int)<(d.p.Sites.length:Int)then((d.p.Sites[U]?).bind fun aa=>need ((I.length+2)*8<=140737488355328) (some (.inl ((I++[aa.From,aa.To]),(U+1)))))else(some (.inr (I)))
def ztk (d:flow_desk) (labels:List Int):((List Int)×Nat)->Option (((List Int)×Nat)⊕(List Int))
 |(I,U)=>if(U:Int)<(w64 ((d.p.Vars.length:Int)+(d.p.Blocks.length:Int)))then(if(U:Int)<(labels.length:Int)then((labels[U]?).bind fun aa=>need ((I.length+1)*8<=140737488355328) (some (.inl ((I++[aa]),(U+1)))))else(need ((I.length+1)*8<=140737488355328) (some (.inl ((I++[(-1)]),(U+1))))))else(some (.inr (I)))
def zoz (d:flow_desk) (labels:List Int):Option (List Int):=
 (loop (ztk d labels) ([],0)).bind (fun U=>(loop (ztj d) (U,0)).bind (fun I=>some I))
def zm2 (d:flow_desk) (name:Str):Option Int:=
 (zly d.p name).bind fun I=>some (w64 ((d.p.Vars.length:Int)+I))
def zp3 (d:flow_desk) (name:Str):Option Int:=
 (znk d.p name).bind fun I=>some (w64 ((w64 ((w64 ((d.p.Vars.length:Int)+(d.p.Blocks.length:Int)))+(w64 (2*I))))+1))
def zwz (p0:Int):Option Bool:=
 some true
def zls (U:xtq) (c:Int) (d:Int):Option Bool:=
 (znn U c d).bind fun I=>some I
def zlq (l:xtq):Option Int:=
 (zmd l zwz (zls l)).bind fun I=>some I
def zp0 (l:xtq) (I:List Int):(Int×Nat)->Option ((Int×Nat)⊕(Int⊕Int))
 |(U,aa)=>if(aa:Int)<(I.length:Int)then((I[aa]?).bind fun ab=>if U<0 then(some (.inr (.inl ((-1)))))else(if ab<0 then(some (.inr (.inl ((-1)))))else(if(l.Names.length:Int)<=ab then(some (.inr (.inl ((-1)))))else((zme l U ab).bind fun ad=>some (.inl (ad,(aa+1)))))))else(some (.inr (.inr (U))))
def zun (l:xtq) (I:List Int):Option Int:=
 (zlq l).bind fun U=>(loop (zp0 l I) (U,0)).bind (fun aa=>match aa with|(.inl ab)=>some ab|(.inr ad)=>some ad)
end
theorem zlv {s:List xtv} {f:(xtv->Option Bool)} {r:Int}
  {f_f:FuncId} {f_c:List C} (ab:Clo f_c) (ad:∀(x0:xtv) (r:Bool),f x0=some r->Pu prog f_f ([.agg (xtx x0)]++f_c.map V.one) (.one (.bool r))) (h:zcr s f=some r):
  Pu prog 124 [.one (.sl (s.map xtx)),.one (.fn f_f f_c)] (.one (.int .i64 r)):=by
 have F:=trivial;have R:=trivial
 refine pA func124 ?_;simp only[f124];unfold zcr at h
 have F:=And.intro ab.all F
 refine bi h fun ai h ae=>?_;refine tr ?_;intros
 refine lX ae (fun|U,_=>⟨[(0,.one (.sl (s.map xtx))),(1,.one (.fn f_f f_c)),(7,.one (.int .i64 (s.length:Int))),(8,.one (.int .i64 (U:Int)))],[]⟩) (fun|(.inl al),_=>⟨[],[]⟩|(.inr ()),_=>⟨[],[]⟩) (fun|(.inl _)=>none|(.inr _)=>some 0) ?_ ?_
 intro i3 b3 aa
 rcases ai with aj|⟨⟩
 cases aa;obtain rfl:=Wab aa;obtain⟨⟩:=b3;dsimp only at h|-;cases h;exact fin;intro af3 m3 U a3 o3 I ho3 ih3;obtain⟨⟩:=a3;dsimp only[zb8]at I|-;refine fl I F ?_ ?_<;>intro I _ F;refine bx I F fun an I ak F=>?_;refine bi I fun ao I af=>?_;refine tr ?_;intros;refine cS (ad _ _ af) ?_;refine fv I F ?_ ?_<;>intro I _ F;cases I;obtain rfl:=sr ho3
 try dsimp only at h
 cases h;exact fin;cases I;refine tt ?_;refine wn U F fun F=>?_;exact bk ih3 ho3 ();cases I;refine tt ?_;exact xt ho3 af3 ()
theorem zr4 {c0:(xtv->Option Str)} {c1:Str} {x:xtv} {r:Bool}
  {c0_f:FuncId} {c0_c:List C} (I:Clo c0_c) (U:∀(x0:xtv) (r:Str),c0 x0=some r->Pu prog c0_f ([.agg (xtx x0)]++c0_c.map V.one) (.one (.str r))) (h:zi2 c0 c1 x=some r):
  Pu prog 125 [.agg (xtx x),.one (.iptr [.fn c0_f c0_c] 0),.one (.iptr (eS c1) 0)] (.one (.bool r)):=by
 have F:=trivial;have R:=trivial
 refine pA func125 ?_;simp only[f125];unfold zi2 at h
 have F:=And.intro I.all F
 refine bi h fun ab h aa=>?_;refine tr ?_;intros;refine cD (U _ _ aa) ?_;cases h;exact fin
theorem zur {l:List xtv} {name:Str} {of:(xtv->Option Str)} {r:Int}
  {of_f:FuncId} {of_c:List C} (I:Clo of_c) (U:∀(x0:xtv) (r:Str),of x0=some r->Pu prog of_f ([.agg (xtx x0)]++of_c.map V.one) (.one (.str r))) (h:zkm l name of=some r):
  Pu prog 90 [.one (.sl (l.map xtx)),.one (.str name),.one (.fn of_f of_c)] (.one (.int .i64 r)):=by
 have F:=trivial;have R:=trivial
 refine pA func90 ?_;simp only[f90];unfold zkm at h
 have F:=And.intro I.all F
 refine bi h fun ab h aa=>?_;refine tr ?_;intros;refine cS (zlv (f_f:=125) (f_c:=[.iptr [.fn of_f of_c] 0,.iptr [.str name] 0]) clo (fun _ r h=>zr4 (c0_f:=of_f) (c0_c:=of_c) I U h) aa) ?_;cases h;exact fin
theorem z1b {v:xtv} {r:Str} (h:zr6 v=some r):
  Pu prog 91 [.agg (xtx v)] (.one (.str r)):=by
 have F:=trivial;have R:=trivial
 refine pA func91 ?_;simp only[f91];unfold zr6 at h;cases h;exact fin
theorem zl8 {p:xtm} {name:Str} {r:Int} (h:zlo p name=some r):
  Pu prog 60 [.agg (xtr p),.one (.str name)] (.one (.int .i64 r)):=by
 have F:=trivial;have R:=trivial
 refine pA func60 ?_;simp only[f60];unfold zlo at h;refine bi h fun U h I=>?_;refine tr ?_;intros;refine cS (zur (of_f:=91) (of_c:=[]) clo (fun _ r h=>z1b h) I) ?_;cases h;exact fin
theorem zkr {s:List xt1} {f:(xt1->Option Bool)} {r:Int}
  {f_f:FuncId} {f_c:List C} (ab:Clo f_c) (ad:∀(x0:xt1) (r:Bool),f x0=some r->Pu prog f_f ([.agg (xty x0)]++f_c.map V.one) (.one (.bool r))) (h:zb5 s f=some r):
  Pu prog 127 [.one (.sl (s.map xty)),.one (.fn f_f f_c)] (.one (.int .i64 r)):=by
 have F:=trivial;have R:=trivial
 refine pA func127 ?_;simp only[f127];unfold zb5 at h
 have F:=And.intro ab.all F
 refine bi h fun ai h ae=>?_;refine tr ?_;intros
 refine lX ae (fun|U,_=>⟨[(0,.one (.sl (s.map xty))),(1,.one (.fn f_f f_c)),(7,.one (.int .i64 (s.length:Int))),(8,.one (.int .i64 (U:Int)))],[]⟩) (fun|(.inl al),_=>⟨[],[]⟩|(.inr ()),_=>⟨[],[]⟩) (fun|(.inl _)=>none|(.inr _)=>some 0) ?_ ?_
 intro i3 b3 aa
 rcases ai with aj|⟨⟩
 cases aa;obtain rfl:=Wab aa;obtain⟨⟩:=b3;dsimp only at h|-;cases h;exact fin;intro af3 m3 U a3 o3 I ho3 ih3;obtain⟨⟩:=a3;dsimp only[zbx]at I|-;refine fl I F ?_ ?_<;>intro I _ F;refine bx I F fun an I ak F=>?_;refine bi I fun ao I af=>?_;refine tr ?_;intros;refine cS (ad _ _ af) ?_;refine fv I F ?_ ?_<;>intro I _ F;cases I;obtain rfl:=sr ho3
 try dsimp only at h
 cases h;exact fin;cases I;refine tt ?_;refine wn U F fun F=>?_;exact bk ih3 ho3 ();cases I;refine tt ?_;exact xt ho3 af3 ()
theorem zp8 {c0:(xt1->Option Str)} {c1:Str} {x:xt1} {r:Bool}
  {c0_f:FuncId} {c0_c:List C} (I:Clo c0_c) (U:∀(x0:xt1) (r:Str),c0 x0=some r->Pu prog c0_f ([.agg (xty x0)]++c0_c.map V.one) (.one (.str r))) (h:zh1 c0 c1 x=some r):
  Pu prog 128 [.agg (xty x),.one (.iptr [.fn c0_f c0_c] 0),.one (.iptr (eS c1) 0)] (.one (.bool r)):=by
 have F:=trivial;have R:=trivial
 refine pA func128 ?_;simp only[f128];unfold zh1 at h
 have F:=And.intro I.all F
 refine bi h fun ab h aa=>?_;refine tr ?_;intros;refine cD (U _ _ aa) ?_;cases h;exact fin
theorem zr5 {l:List xt1} {name:Str} {of:(xt1->Option Str)} {r:Int}
  {of_f:FuncId} {of_c:List C} (I:Clo of_c) (U:∀(x0:xt1) (r:Str),of x0=some r->Pu prog of_f ([.agg (xty x0)]++of_c.map V.one) (.one (.str r))) (h:zi3 l name of=some r):
  Pu prog 93 [.one (.sl (l.map xty)),.one (.str name),.one (.fn of_f of_c)] (.one (.int .i64 r)):=by
 have F:=trivial;have R:=trivial
 refine pA func93 ?_;simp only[f93];unfold zi3 at h
 have F:=And.intro I.all F
 refine bi h fun ab h aa=>?_;refine tr ?_;intros;refine cS (zkr (f_f:=128) (f_c:=[.iptr [.fn of_f of_c] 0,.iptr [.str name] 0]) clo (fun _ r h=>zp8 (c0_f:=of_f) (c0_c:=of_c) I U h) aa) ?_;cases h;exact fin
theorem zzm {b:xt1} {r:Str} (h:zow b=some r):
  Pu prog 94 [.agg (xty b)] (.one (.str r)):=by
 have F:=trivial;have R:=trivial
 refine pA func94 ?_;simp only[f94];unfold zow at h;cases h;exact fin
theorem zp9 {p:xtm} {name:Str} {r:Int} (h:zly p name=some r):
  Pu prog 62 [.agg (xtr p),.one (.str name)] (.one (.int .i64 r)):=by
 have F:=trivial;have R:=trivial
 refine pA func62 ?_;simp only[f62];unfold zly at h;refine bi h fun U h I=>?_;refine tr ?_;intros;refine cS (zr5 (of_f:=94) (of_c:=[]) clo (fun _ r h=>zzm h) I) ?_;cases h;exact fin
theorem zlf {s:List xt2} {f:(xt2->Option Bool)} {r:Int}
  {f_f:FuncId} {f_c:List C} (ab:Clo f_c) (ad:∀(x0:xt2) (r:Bool),f x0=some r->Pu prog f_f ([.agg (xtw x0)]++f_c.map V.one) (.one (.bool r))) (h:zce s f=some r):
  Pu prog 142 [.one (.sl (s.map xtw)),.one (.fn f_f f_c)] (.one (.int .i64 r)):=by
 have F:=trivial;have R:=trivial
 refine pA func142 ?_;simp only[f142];unfold zce at h
 have F:=And.intro ab.all F
 refine bi h fun ai h ae=>?_;refine tr ?_;intros
 refine lX ae (fun|U,_=>⟨[(0,.one (.sl (s.map xtw))),(1,.one (.fn f_f f_c)),(7,.one (.int .i64 (s.length:Int))),(8,.one (.int .i64 (U:Int)))],[]⟩) (fun|(.inl al),_=>⟨[],[]⟩|(.inr ()),_=>⟨[],[]⟩) (fun|(.inl _)=>none|(.inr _)=>some 0) ?_ ?_
 intro i3 b3 aa
 rcases ai with aj|⟨⟩
 cases aa;obtain rfl:=Wab aa;obtain⟨⟩:=b3;dsimp only at h|-;cases h;exact fin;intro af3 m3 U a3 o3 I ho3 ih3;obtain⟨⟩:=a3;dsimp only[zb0]at I|-;refine fl I F ?_ ?_<;>intro I _ F;refine bx I F fun an I ak F=>?_;refine bi I fun ao I af=>?_;refine tr ?_;intros;refine cS (ad _ _ af) ?_;refine fv I F ?_ ?_<;>intro I _ F;cases I;obtain rfl:=sr ho3
 try dsimp only at h
 cases h;exact fin;cases I;refine tt ?_;refine wn U F fun F=>?_;exact bk ih3 ho3 ();cases I;refine tt ?_;exact xt ho3 af3 ()
theorem zq4 {c0:(xt2->Option Str)} {c1:Str} {x:xt2} {r:Bool}
  {c0_f:FuncId} {c0_c:List C} (I:Clo c0_c) (U:∀(x0:xt2) (r:Str),c0 x0=some r->Pu prog c0_f ([.agg (xtw x0)]++c0_c.map V.one) (.one (.str r))) (h:zir c0 c1 x=some r):
  Pu prog 143 [.agg (xtw x),.one (.iptr [.fn c0_f c0_c] 0),.one (.iptr (eS c1) 0)] (.one (.bool r)):=by
 have F:=trivial;have R:=trivial
 refine pA func143 ?_;simp only[f143];unfold zir at h
 have F:=And.intro I.all F
 refine bi h fun ab h aa=>?_;refine tr ?_;intros;refine cD (U _ _ aa) ?_;cases h;exact fin
theorem ztn {l:List xt2} {name:Str} {of:(xt2->Option Str)} {r:Int}
  {of_f:FuncId} {of_c:List C} (I:Clo of_c) (U:∀(x0:xt2) (r:Str),of x0=some r->Pu prog of_f ([.agg (xtw x0)]++of_c.map V.one) (.one (.str r))) (h:zjf l name of=some r):
  Pu prog 98 [.one (.sl (l.map xtw)),.one (.str name),.one (.fn of_f of_c)] (.one (.int .i64 r)):=by
 have F:=trivial;have R:=trivial
 refine pA func98 ?_;simp only[f98];unfold zjf at h
 have F:=And.intro I.all F
 refine bi h fun ab h aa=>?_;refine tr ?_;intros;refine cS (zlf (f_f:=143) (f_c:=[.iptr [.fn of_f of_c] 0,.iptr [.str name] 0]) clo (fun _ r h=>zq4 (c0_f:=of_f) (c0_c:=of_c) I U h) aa) ?_;cases h;exact fin
theorem z0j {s:xt2} {r:Str} (h:zp2 s=some r):
  Pu prog 99 [.agg (xtw s)] (.one (.str r)):=by
 have F:=trivial;have R:=trivial
 refine pA func99 ?_;simp only[f99];unfold zp2 at h;cases h;exact fin
theorem zr7 {p:xtm} {name:Str} {r:Int} (h:znk p name=some r):
  Pu prog 64 [.agg (xtr p),.one (.str name)] (.one (.int .i64 r)):=by
 have F:=trivial;have R:=trivial
 refine pA func64 ?_;simp only[f64];unfold znk at h;refine bi h fun U h I=>?_;refine tr ?_;intros;refine cS (ztn (of_f:=99) (of_c:=[]) clo (fun _ r h=>z0j h) I) ?_;cases h;exact fin
theorem zm0 {l:xtq} {a:Int} {r:Bool} (h:zk9 l a=some r):
  Pu prog 169 [.agg (xt5 l),.one (.int .i64 a)] (.one (.bool r)):=by
 have F:=trivial;have R:=trivial
 refine pA func169 ?_;simp only[f169];unfold zk9 at h;refine fi h F ?_ ?_<;>intro h _ F;cases h;exact fin;cases h;exact fin
theorem zoi {l:xtq} {a:Int} {r:List Bool} (h:zj1 l a=some r):
  Pu prog 170 [.agg (xt5 l),.one (.int .i64 a)] (.one (.sl (r.map eB))):=by
 have F:=trivial;have R:=trivial
 refine pA func170 ?_;simp only[f170];unfold zj1 at h;refine nd h F fun h F=>?_
 have R:=And.intro (show List.replicate l.Names.length [.bool false]=List.map eB (List.replicate l.Names.length false) by simp[go_sem]) R
 refine by_ h F fun a4 h aX F=>?_;refine ln F fun F=>?_
 have R:=And.intro (show(List.map eB (List.replicate l.Names.length false)).set a.toNat [.bool true]=List.map eB ((List.replicate l.Names.length false).set a.toNat true) by simp[go_sem,WaL]) R
 refine bi h fun aO h aK=>?_;refine tr ?_;intros
 refine lE (fun(az:(List Bool)×(List Int)) (aA:Nat×(List Int))=>match az,aA with|(au,aa),(ax,U)=>⟨[(2,.one (.ref 0 0 0 0)),(5,.one (.msl 1 0 0 au.length)),(6,.one (.msl 2 ax U.length (U.length+aa.length)))],[.cells 0 2 [(eQ_ l)],.cells 0 1 (au.map eB),.cells ax 1 ((U++aa).map eI)]⟩) (fun(aB:(List Bool)×(List Int)) (aC:Nat×(List Int))=>match aB,aC with|(an,ar),(aD,ay)=>⟨[(5,.one (.msl 1 0 0 an.length))],[.cells 0 2 [(eQ_ l)],.cells 0 1 (an.map eB),.cells aD 1 ((ay++ar).map eI)]⟩) (fun(_:(List Bool)×(List Int))=>some 0) (0,([]:List Int)) aK ?_ ?_
 intro i8 b8 aP;obtain rfl:=Wab aP;obtain⟨an,ar⟩:=aO;obtain⟨aD,ay⟩:=b8;dsimp only at h|-;cases h;exact fin;intro aQ m8 s8 a8 o8 ad aI aR;obtain⟨au,aa⟩:=s8;obtain⟨ax,U⟩:=a8;dsimp only[zj4]at ad|-;refine tr ?_;intros;refine fi ad F ?_ ?_<;>intro ad _ F;refine bx ad F fun aJ ad aE F=>?_
 have R:=And.intro (show(U++aa)[U.length]? =some aJ from yq6 aE) (And.intro (show U.length<(U++aa).length from q_lt aE) R)
 refine nd ad F fun ad F=>?_
 have R:=And.intro (show List.drop (U.length+1) (List.map eI (U++aa))=List.map eI (aa.drop 1)from yl2 _ _ _ _) R
 refine bi ad fun aL ad aG=>?_;refine tr ?_;intros
 refine lE (fun(az:(List Bool)×(List Int)×Nat) (aA:Nat×(List Int))=>match az,aA with|(ae,aj,ak),(af,ab)=>⟨[(2,.one (.ref 0 0 0 0)),(5,.one (.msl 1 0 0 ae.length)),(6,.one (.msl 2 af ab.length (ab.length+aj.length))),(7,.one (.int .i64 aJ)),(28,.one (.sl (l.Below.map (eA2 eI)))),(29,.one (.int .i64 (l.Below.length:Int))),(30,.one (.int .i64 (ak:Int)))],[.cells 0 2 [(eQ_ l)],.cells 0 1 (ae.map eB),.cells af 1 ((ab++aj).map eI)]⟩) (fun(aB:(List Bool)×(List Int)) (aC:Nat×(List Int))=>match aB,aC with|(ao,al),(av,ai)=>⟨[(2,.one (.ref 0 0 0 0)),(5,.one (.msl 1 0 0 ao.length)),(6,.one (.msl 2 av ai.length (ai.length+al.length)))],[.cells 0 2 [(eQ_ l)],.cells 0 1 (ao.map eB),.cells av 1 ((ai++al).map eI)]⟩) (fun(_:(List Bool)×(List Int))=>some 2) (ax,(U++aa.take 1)) aG ?_ ?_
 intro i19 aS aM;obtain rfl:=Wab aM;obtain⟨ao,al⟩:=aL;obtain⟨av,ai⟩:=aS;dsimp only at ad|-;cases ad;refine tt ?_;exact bk aR aI (av,ai);intro aN a5 aT aU a6 I aq aw;obtain⟨ae,aj,ak⟩:=aT;obtain⟨af,ab⟩:=aU;dsimp only[zj3]at I|-;refine fl I F ?_ ?_<;>intro I _ F;refine bx I F fun aF I aV F=>?_;refine tr ?_;intros;refine fi I F ?_ ?_<;>intro I _ F;refine bi I fun aY I aH=>?_
 refine tr ?_;intros;refine cS (zm0 aH) ?_;refine fv I F ?_ ?_<;>intro I _ F;refine by_ I F fun aZ I aW F=>?_;refine tr ?_;intros;refine fv I F ?_ ?_<;>intro I _ F;cases I;refine tt ?_;refine wn ak F fun F=>?_;exact bk aw aq (af,ab)
 have R:=And.intro (show(List.map eB ae).set aF.a1.toNat [.bool true]=List.map eB (ae.set aF.a1.toNat true) by simp[go_sem,WaL]) R
 refine nd I F fun I F=>?_;cases I;refine tr ?_;intros;refine wn ak F fun F=>?_;exact bk aw aq ((af+1),[]);cases I;refine tt ?_;refine wn ak F fun F=>?_;exact bk aw aq (af,ab);cases I;refine tt ?_;refine wn ak F fun F=>?_;exact bk aw aq (af,ab);cases I;refine tt ?_;exact xt aq aN (af,ab);cases ad;refine tt ?_;exact xt aI aQ (ax,U)
theorem zvd {l:xtq} {of:(Int->Option Bool)} {ahead:(Int->Int->Option Bool)} {r:Int}
  {of_f:FuncId} {of_c:List C} (aj:Clo of_c) (ae:∀(x0:Int) (r:Bool),of x0=some r->Pu prog of_f ([.one (.int .i64 x0)]++of_c.map V.one) (.one (.bool r)))
  {ahead_f:FuncId} {ahead_c:List C} (ab:Clo ahead_c) (ad:∀(x0:Int) (x1:Int) (r:Bool),ahead x0 x1=some r->Pu prog ahead_f ([.one (.int .i64 x0),.one (.int .i64 x1)]++ahead_c.map V.one) (.one (.bool r))) (h:zmd l of ahead=some r):
  Pu prog 171 [.agg (xt5 l),.one (.fn of_f of_c),.one (.fn ahead_f ahead_c)] (.one (.int .i64 r)):=by
 have F:=trivial;have R:=trivial
 refine pA func171 ?_;simp only[f171];unfold zmd at h
 have F:=And.intro aj.all F
 have F:=And.intro ab.all F
 refine bi h fun ax h aq=>?_;refine tr ?_;intros
 refine lX aq (fun|aa,_=>⟨[(1,.one (.fn of_f of_c)),(2,.one (.fn ahead_f ahead_c)),(3,.one (.ref 0 0 0 0)),(11,.one (.int .i64 (l.Names.length:Int))),(12,.one (.int .i64 (aa:Int)))],[.cells 0 2 [(eQ_ l)]]⟩) (fun|(.inl aA),_=>⟨[],[]⟩|(.inr ()),_=>⟨[],[.cells 0 2 [(eQ_ l)]]⟩) (fun|(.inl _)=>none|(.inr _)=>some 0) ?_ ?_
 intro i3 b3 ak
 rcases ax with ay|⟨⟩
 cases ak;obtain rfl:=Wab ak;obtain⟨⟩:=b3;dsimp only at h|-;cases h;exact fin;intro af3 m3 aa a3 o3 I ho3 ih3;obtain⟨⟩:=a3;dsimp only[zk4]at I|-;refine fl I F ?_ ?_<;>intro I _ F;refine bi I fun aB I ar=>?_;refine tr ?_;intros;refine cS (ae _ _ ar) ?_;refine fv I F ?_ ?_<;>intro I _ F;refine bi I fun az I au=>?_;refine tr ?_;intros
 refine lX au (fun|af,_=>⟨[(1,.one (.fn of_f of_c)),(2,.one (.fn ahead_f ahead_c)),(3,.one (.ref 0 0 0 0)),(7,.one (.int .i64 (aa:Int))),(11,.one (.int .i64 (l.Names.length:Int))),(12,.one (.int .i64 (aa:Int))),(21,.one (.int .i64 (l.Names.length:Int))),(22,.one (.int .i64 (af:Int)))],[.cells 0 2 [(eQ_ l)]]⟩) (fun|(.inl ()),_=>⟨[(1,.one (.fn of_f of_c)),(2,.one (.fn ahead_f ahead_c)),(3,.one (.ref 0 0 0 0)),(11,.one (.int .i64 (l.Names.length:Int))),(12,.one (.int .i64 (aa:Int)))],[.cells 0 2 [(eQ_ l)]]⟩|(.inr ()),_=>⟨[(7,.one (.int .i64 (aa:Int)))],[.cells 0 2 [(eQ_ l)]]⟩) (fun|(.inl _)=>some 1|(.inr _)=>some 2) ?_ ?_
 intro i7 b7 al
 rcases az with⟨⟩|⟨⟩
 obtain rfl:=Wab al;obtain⟨⟩:=b7;dsimp only at I|-;cases I;refine tt ?_;refine wn aa F fun F=>?_;exact bk ih3 ho3 ();obtain rfl:=Wab al;obtain⟨⟩:=b7;dsimp only at I|-;cases I;obtain rfl:=sr ho3
 try dsimp only at h
 cases h;exact fin;intro an m7 af a7 o7 U ai ao;obtain⟨⟩:=a7;dsimp only[zi8]at U|-;refine fl U F ?_ ?_<;>intro U _ F;refine bi U fun aC U av=>?_;refine tr ?_;intros;refine cS (ae _ _ av) ?_;refine fv U F ?_ ?_<;>intro U _ F;refine bi U fun aD U aw=>?_;refine tr ?_;intros;refine cS (ad _ _ _ aw) ?_;refine fv U F ?_ ?_<;>intro U _ F;cases U;refine tt ?_;refine wn af F fun F=>?_;exact bk ao ai ()
 cases U;refine tt ?_;exact xt ai an ();cases U;refine tt ?_;refine wn af F fun F=>?_;exact bk ao ai ();cases U;refine tt ?_;exact xt ai an ();cases I;refine tt ?_;refine wn aa F fun F=>?_;exact bk ih3 ho3 ();cases I;refine tt ?_;exact xt ho3 af3 ()
theorem zyk {I:List Bool} {c1:List Bool} {c:Int} {r:Bool} (h:znw I c1 c=some r):
  Pu prog 172 [.one (.int .i64 c),.one (.iptr ((eL eB) I) 0),.one (.iptr ((eL eB) c1) 0)] (.one (.bool r)):=by
 have F:=trivial;have R:=trivial
 refine pA func172 ?_;simp only[f172];unfold znw at h;refine by_ h F fun ab h U F=>?_;refine tr ?_;intros;refine fv h F ?_ ?_<;>intro h _ F;refine by_ h F fun ad h aa F=>?_;cases h;exact fin;cases h;exact fin
theorem zwi {l:xtq} {a:Int} {b:Int} {r:Bool} (h:znn l a b=some r):
  Pu prog 174 [.agg (xt5 l),.one (.int .i64 a),.one (.int .i64 b)] (.one (.bool r)):=by
 have F:=trivial;have R:=trivial
 refine pA func174 ?_;simp only[f174];unfold znn at h;refine bi h fun ad h I=>?_;refine tr ?_;intros;refine cS (zm0 I) ?_;refine fv h F ?_ ?_<;>intro h _ F;refine bi h fun ae h U=>?_;refine tr ?_;intros;refine cS (zm0 U) ?_;refine fv h F ?_ ?_<;>intro h _ F;refine bi h fun af h aa=>?_;refine tr ?_;intros;refine cS (zoi aa) ?_;refine by_ h F fun ai h ab F=>?_;cases h;exact fin;cases h;exact fin
 cases h;exact fin
theorem zyj {U:xtq} {c:Int} {d:Int} {r:Bool} (h:znv U c d=some r):
  Pu prog 173 [.one (.int .i64 c),.one (.int .i64 d),.one (.iptr (xt5 U) 0)] (.one (.bool r)):=by
 have F:=trivial;have R:=trivial
 refine pA func173 ?_;simp only[f173];unfold znv at h;refine bi h fun aa h I=>?_;refine tr ?_;intros;refine cS (zwi I) ?_;cases h;exact fin
theorem zve {l:xtq} {a:Int} {b:Int} {r:Int} (h:zme l a b=some r):
  Pu prog 148 [.agg (xt5 l),.one (.int .i64 a),.one (.int .i64 b)] (.one (.int .i64 r)):=by
 have F:=trivial;have R:=trivial
 refine pA func148 ?_;simp only[f148];unfold zme at h;refine bi h fun ai h I=>?_;refine tr ?_;intros;refine cS (zm0 I) ?_;refine fv h F ?_ ?_<;>intro h _ F;refine bi h fun aj h U=>?_;refine tr ?_;intros;refine cS (zm0 U) ?_;refine fv h F ?_ ?_<;>intro h _ F;refine bi h fun ae h aa=>?_;refine tr ?_;intros;refine cD (zoi aa) ?_;refine bi h fun af h ab=>?_;refine tr ?_;intros;refine cD (zoi ab) ?_
 refine bi h fun ak h ad=>?_;refine tr ?_;intros;refine cS (zvd (of_f:=172) (of_c:=[.iptr [.sl (ae.map eB)] 0,.iptr [.sl (af.map eB)] 0]) clo (fun _ r h=>zyk h) (ahead_f:=173) (ahead_c:=[.iptr (eQ_ l) 0]) clo (fun _ _ r h=>zyj h) ad) ?_;cases h;exact fin;cases h;exact fin;cases h;exact fin
theorem zzp {d:flow_desk} {labels:List Int} {r:List Int} (h:zoz d labels=some r):
  Pu prog 175 [.agg (zaq d),.one (.sl (labels.map eI))] (.one (.sl (r.map eI))):=by
 have F:=trivial;have R:=trivial
 refine pA func175 ?_;simp only[f175];unfold zoz at h;refine bi h fun aj h ay=>?_;refine tr ?_;intros;refine zw8 5 1 (by simp[go_sem]) ?_
 refine lE (fun(ak:(List Int)×Nat) (al:Nat)=>match ak,al with|(an,ai),ab=>⟨[(1,.one (.sl (labels.map eI))),(2,.one (.ref 0 0 0 0)),(5,.one (.msl 1 ab 0 an.length)),(17,.one (.int .i64 (w64 ((d.p.Vars.length:Int)+(d.p.Blocks.length:Int))))),(18,.one (.int .i64 (ai:Int)))],[.cells 0 6 [[.sl (d.p.Lattice.Names.map eS),.sl (d.p.Lattice.Below.map (eA2 eI)),.sl (d.p.Sites.map xtw),.sl (d.p.Vars.map xtx),.sl (d.p.Blocks.map xty),.sl (d.p.Tasks.map xt0)]],.cells ab 1 (an.map eI)]⟩) (fun(ao:List Int) (aq:Nat)=>match ao,aq with|aj,b6=>⟨[(2,.one (.ref 0 0 0 0)),(5,.one (.msl 1 b6 0 aj.length))],[.cells 0 6 [[.sl (d.p.Lattice.Names.map eS),.sl (d.p.Lattice.Below.map (eA2 eI)),.sl (d.p.Sites.map xtw),.sl (d.p.Vars.map xtx),.sl (d.p.Blocks.map xty),.sl (d.p.Tasks.map xt0)]],.cells b6 1 (aj.map eI)]⟩) (fun(_:List Int)=>some 0) 0 ay ?_ ?_
 intro i6 b6 aC;obtain rfl:=Wab aC;dsimp only at h|-;refine bi h fun ad h aw=>?_;refine tr ?_;intros
 refine lE (fun(ak:(List Int)×Nat) (al:Nat)=>match ak,al with|(ae,af),aa=>⟨[(5,.one (.msl 1 aa 0 ae.length)),(38,.one (.sl (d.p.Sites.map xtw))),(39,.one (.int .i64 (d.p.Sites.length:Int))),(40,.one (.int .i64 (af:Int)))],[.cells 0 6 [[.sl (d.p.Lattice.Names.map eS),.sl (d.p.Lattice.Below.map (eA2 eI)),.sl (d.p.Sites.map xtw),.sl (d.p.Vars.map xtx),.sl (d.p.Blocks.map xty),.sl (d.p.Tasks.map xt0)]],.cells aa 1 (ae.map eI)]⟩) (fun(ao:List Int) (aq:Nat)=>match ao,aq with|ad,ar=>⟨[(5,.one (.msl 1 ar 0 ad.length))],[.cells 0 6 [[.sl (d.p.Lattice.Names.map eS),.sl (d.p.Lattice.Below.map (eA2 eI)),.sl (d.p.Sites.map xtw),.sl (d.p.Vars.map xtx),.sl (d.p.Blocks.map xty),.sl (d.p.Tasks.map xt0)]],.cells ar 1 (ad.map eI)]⟩) (fun(_:List Int)=>some 2) b6 aw ?_ ?_
 intro i16 ar az;obtain rfl:=Wab az;dsimp only at h|-;cases h;exact fin;intro aA aI aD aa aJ U au aB;obtain⟨ae,af⟩:=aD;dsimp only[ztj]at U|-;refine fl U F ?_ ?_<;>intro U _ F;refine bx U F fun aG U aF F=>?_;refine nd U F fun U F=>?_;cases U;refine tr ?_;intros;refine wn af F fun F=>?_;exact bk aB au (aa+1);cases U;refine tt ?_;exact xt au aA aa;intro aE m6 s6 ab o6 I av ax;obtain⟨an,ai⟩:=s6
 dsimp only[ztk]at I|-;refine fi I F ?_ ?_<;>intro I _ F;refine tr ?_;intros;refine fl I F ?_ ?_<;>intro I _ F;refine bx I F fun aK I aH F=>?_;refine nd I F fun I F=>?_;cases I;refine tr ?_;intros
 have F:=And.intro (z18 ((d.p.Vars.length:Int)+(d.p.Blocks.length:Int))) F
 refine wn ai F fun F=>?_;exact bk ax av (ab+1);refine nd I F fun I F=>?_;cases I;refine tr ?_;intros
 have F:=And.intro (z18 ((d.p.Vars.length:Int)+(d.p.Blocks.length:Int))) F
 refine wn ai F fun F=>?_;exact bk ax av (ab+1);cases I;refine tt ?_;exact xt av aE ab
theorem zxq {d:flow_desk} {name:Str} {r:Int} (h:zm2 d name=some r):
  Pu prog 203 [.agg (zaq d),.one (.str name)] (.one (.int .i64 r)):=by
 have F:=trivial;have R:=trivial
 refine pA func203 ?_;simp only[f203];unfold zm2 at h;refine bi h fun U h I=>?_;refine tr ?_;intros;refine cD (zp9 I) ?_;cases h;exact fin
theorem z0v {d:flow_desk} {name:Str} {r:Int} (h:zp3 d name=some r):
  Pu prog 204 [.agg (zaq d),.one (.str name)] (.one (.int .i64 r)):=by
 have F:=trivial;have R:=trivial
 refine pA func204 ?_;simp only[f204];unfold zp3 at h;refine bi h fun U h I=>?_;refine tr ?_;intros;refine cD (zr7 I) ?_;cases h;exact fin
theorem z1e {p0:Int} {r:Bool} (h:zwz p0=some r):
  Pu prog 205 [.one (.int .i64 p0)] (.one (.bool r)):=by
 have F:=trivial;have R:=trivial
 refine pA func205 ?_;simp only[f205];unfold zwz at h;cases h;exact fin
theorem zw0 {U:xtq} {c:Int} {d:Int} {r:Bool} (h:zls U c d=some r):
  Pu prog 206 [.one (.int .i64 c),.one (.int .i64 d),.one (.iptr (xt5 U) 0)] (.one (.bool r)):=by
 have F:=trivial;have R:=trivial
 refine pA func206 ?_;simp only[f206];unfold zls at h;refine bi h fun aa h I=>?_;refine tr ?_;intros;refine cS (zwi I) ?_;cases h;exact fin
theorem zyl {l:xtq} {r:Int} (h:zlq l=some r):
  Pu prog 195 [.agg (xt5 l)] (.one (.int .i64 r)):=by
 have F:=trivial;have R:=trivial
 refine pA func195 ?_;simp only[f195];unfold zlq at h;refine bi h fun U h I=>?_;refine tr ?_;intros;refine cS (zvd (of_f:=205) (of_c:=[]) clo (fun _ r h=>z1e h) (ahead_f:=206) (ahead_c:=[.iptr (eQ_ l) 0]) clo (fun _ _ r h=>zw0 h) I) ?_;cases h;exact fin
theorem z3w {l:xtq} {U:List Int} {r:Int} (h:zun l U=some r):
  Pu prog 177 [.agg (xt5 l),.one (.sl (U.map eI))] (.one (.int .i64 r)):=by
 have F:=trivial;have R:=trivial
 refine pA func177 ?_;simp only[f177];unfold zun at h;refine bi h fun au h ai=>?_;refine tr ?_;intros;refine cS (zyl ai) ?_;refine bi h fun al h aj=>?_;refine tr ?_;intros
 refine lX aj (fun|(ad,ab),_=>⟨[(2,.one (.ref 0 0 0 0)),(5,.one (.int .i64 ad)),(10,.one (.sl (U.map eI))),(11,.one (.int .i64 (U.length:Int))),(12,.one (.int .i64 (ab:Int)))],[.cells 0 2 [(eQ_ l)]]⟩) (fun|(.inl av),_=>⟨[],[]⟩|(.inr ae),_=>⟨[(5,.one (.int .i64 ae))],[.cells 0 2 [(eQ_ l)]]⟩) (fun|(.inl _)=>none|(.inr _)=>some 0) ?_ ?_
 intro i5 b5 af
 rcases al with an|ae
 cases af;obtain rfl:=Wab af;obtain⟨⟩:=b5;dsimp only at h|-;cases h;exact fin;intro ao m5 s5 a5 o5 I aa aq;obtain⟨ad,ab⟩:=s5;obtain⟨⟩:=a5;dsimp only[zp0]at I|-;refine fl I F ?_ ?_<;>intro I _ F;refine bx I F fun aw I ar F=>?_;refine tr ?_;intros;refine fi I F ?_ ?_<;>intro I _ F;cases I;obtain rfl:=sr aa
 try dsimp only at h
 cases h;exact fin;refine fi I F ?_ ?_<;>intro I _ F;cases I;obtain rfl:=sr aa
 try dsimp only at h
 cases h;exact fin;refine tr ?_;intros;refine fi I F ?_ ?_<;>intro I _ F;cases I;obtain rfl:=sr aa
 try dsimp only at h
 cases h;exact fin;refine bi I fun ax I ak=>?_;refine tr ?_;intros;refine cS (zve ak) ?_;cases I;refine tt ?_;refine wn ab F fun F=>?_;exact bk aq aa ();cases I;refine tt ?_;exact xt aa ao ()
end Go.Lz

end
section
namespace Go.Lz
open Go.Proofs
attribute [-go_sem] zl6 g_b gd_b
set_option maxRecDepth 100000
set_option maxHeartbeats 4000000
noncomputable section
def ze7 (t:xt3):Option Int:=
 (zbr t).bind fun I=>if I=0 then(some (maxI t.Len 1))else(some 0)
def ze5 (kind:Int):Option Int:=
 if kind=1 then(some 1)else(if kind=2 then(some 16)else(if kind=3 then(some 32)else(if kind=4 then(some 32)else(some 0))))
def zns (t:xt3):Option Int:=
 if(-32768)<=t.Low then((ze5 t.Kind).bind fun I=>if I=0 then(some 6)else(if t.Len<0 then(some 6)else(if 32<t.Len then(some 6)else(if t.Low<32768 then(if t.Len=0 then(if t.Low=0 then(some 0)else(some 6))else(some 0))else(some 6)))))else((ze5 t.Kind).bind fun U=>if U=0 then(some 6)else(if t.Len<0 then(some 6)else(if 32<t.Len then(some 6)else(some 6))))
def zru (t:xt3):Option Int:=
 (zns t).bind fun I=>if I=0 then(some (maxI t.Len 1))else(some 0)
def zfu (a:xt6) (b:xt6):Nat->Option ((Nat)⊕(Bool⊕Unit))
 |aa=>if(aa:Int)<(a.Blocks.length:Int)then((a.Blocks[aa]?).bind fun I=>(b.Blocks[aa]?).bind fun U=>if I.a0=U.a0/\I.a1=U.a1/\I.a2=U.a2/\I.a3=U.a3 then(some (.inl (aa+1)))else(some (.inr (.inl (false)))))else(some (.inr (.inr (()))))
def zfv (a:xt6) (b:xt6):Nat->Option ((Nat)⊕(Bool⊕Unit))
 |I=>if(I:Int)<(a.Cells.length:Int)then((a.Cells[I]?).bind fun U=>(b.Cells[I]?).bind fun aa=>(zbl U aa).bind fun ab=>if ab=true then(some (.inl (I+1)))else(some (.inr (.inl (false)))))else(some (.inr (.inr (()))))
def zfc (a:xt6) (b:xt6):Option Bool:=
 if(a.Cells.length:Int)=(b.Cells.length:Int)then(if(a.Blocks.length:Int)=(b.Blocks.length:Int)then((loop (zfv a b) 0).bind (fun I=>match I with|(.inl aa)=>some aa|(.inr ())=>(loop (zfu a b) 0).bind (fun I=>match I with|(.inl U)=>some U|(.inr ())=>some true)))else(some false))else(some false)
def zfw (a:List xtz) (b:List xtz):Nat->Option ((Nat)⊕(Bool⊕Unit))
 |I=>if(I:Int)<(a.length:Int)then((a[I]?).bind fun U=>(b[I]?).bind fun aa=>if U.Site=aa.Site/\U.Value=aa.Value then(some (.inl (I+1)))else(some (.inr (.inl (false)))))else(some (.inr (.inr (()))))
def zfe (a:List xtz) (b:List xtz):Option Bool:=
 if(a.length:Int)=(b.length:Int)then((loop (zfw a b) 0).bind (fun I=>match I with|(.inl U)=>some U|(.inr ())=>some true))else(some false)
def zhh (a:xtt) (b:xtt):Option Bool:=
 (zfc a.Memory b.Memory).bind fun I=>if I=true then((zbl a.Left b.Left).bind fun U=>if U=true then((zbl a.Latches b.Latches).bind fun aa=>if aa=true then((zfe a.Events b.Events).bind fun ab=>if ab=true then(some (decide (a.Now=b.Now)))else(some false))else(some false))else(some false))else(some false)
end
theorem znf {t:xt3} {r:Int} (h:ze7 t=some r):
  Pu prog 27 [.agg (xt7 t)] (.one (.int .i64 r)):=by
 have F:=trivial;have R:=trivial
 refine pA func27 ?_;simp only[f27];unfold ze7 at h;refine bi h fun U h I=>?_;refine tr ?_;intros;refine cS (zg9 I) ?_;refine fi h F ?_ ?_<;>intro h _ F;cases h;exact fin;cases h;exact fin
theorem zjb {kind:Int} {r:Int} (h:ze5 kind=some r):
  Pu prog 140 [.one (.int .i64 kind)] (.one (.int .i64 r)):=by
 have F:=trivial;have R:=trivial
 refine pA func140 ?_;simp only[f140];unfold ze5 at h;refine fi h F ?_ ?_<;>intro h _ F;cases h;exact fin;refine fi h F ?_ ?_<;>intro h _ F;cases h;exact fin;refine tt ?_;refine fi h F ?_ ?_<;>intro h _ F;cases h;exact fin;refine fi h F ?_ ?_<;>intro h _ F;cases h;exact fin;cases h;exact fin
theorem zwm {t:xt3} {r:Int} (h:zns t=some r):
  Pu prog 126 [.agg (xt7 t)] (.one (.int .i64 r)):=by
 have F:=trivial;have R:=trivial
 refine pA func126 ?_;simp only[f126];unfold zns at h;refine fi h F ?_ ?_<;>intro h _ F;refine bi h fun aa h I=>?_;refine tr ?_;intros;refine cS (zjb I) ?_;refine fi h F ?_ ?_<;>intro h _ F;cases h;exact fin;refine tt ?_;refine fi h F ?_ ?_<;>intro h _ F;cases h;exact fin;refine fi h F ?_ ?_<;>intro h _ F;cases h;exact fin;refine tt ?_;refine fi h F ?_ ?_<;>intro h _ F;refine fi h F ?_ ?_<;>intro h _ F
 refine tt ?_;refine fi h F ?_ ?_<;>intro h _ F;cases h;exact fin;cases h;exact fin;cases h;exact fin;cases h;exact fin;refine bi h fun ab h U=>?_;refine tr ?_;intros;refine cS (zjb U) ?_;refine fi h F ?_ ?_<;>intro h _ F;cases h;exact fin;refine tt ?_;refine fi h F ?_ ?_<;>intro h _ F;cases h;exact fin;refine fi h F ?_ ?_<;>intro h _ F;cases h;exact fin;cases h;exact fin
theorem z3k {t:xt3} {r:Int} (h:zru t=some r):
  Pu prog 123 [.agg (xt7 t)] (.one (.int .i64 r)):=by
 have F:=trivial;have R:=trivial
 refine pA func123 ?_;simp only[f123];unfold zru at h;refine bi h fun U h I=>?_;refine tr ?_;intros;refine cS (zwm I) ?_;refine fi h F ?_ ?_<;>intro h _ F;cases h;exact fin;cases h;exact fin
theorem zq6 {a:xt6} {b:xt6} {r:Bool} (h:zfc a b=some r):
  Pu prog 19 [.agg (xub a),.agg (xub b)] (.one (.bool r)):=by
 have F:=trivial;have R:=trivial
 refine pA func19 ?_;simp only[f19];unfold zfc at h;refine tr ?_;intros;refine fi h F ?_ ?_<;>intro h _ F;refine tr ?_;intros;refine fi h F ?_ ?_<;>intro h _ F;refine bi h fun aq h aj=>?_;refine tt ?_
 refine lX aj (fun|ab,_=>⟨[(2,.one (.ref 0 0 0 0)),(3,.one (.ref 1 0 0 0)),(5,.one (.int .i64 (ab:Int)))],[.cells 0 2 [[.sl (a.Cells.map (eL eI)),.sl (a.Blocks.map (eA4 eI))]],.cells 0 2 [[.sl (b.Cells.map (eL eI)),.sl (b.Blocks.map (eA4 eI))]]]⟩) (fun|(.inl aD),_=>⟨[],[]⟩|(.inr ()),_=>⟨[(2,.one (.ref 0 0 0 0)),(3,.one (.ref 1 0 0 0))],[.cells 0 2 [[.sl (a.Cells.map (eL eI)),.sl (a.Blocks.map (eA4 eI))]],.cells 0 2 [[.sl (b.Cells.map (eL eI)),.sl (b.Blocks.map (eA4 eI))]]]⟩) (fun|(.inl _)=>none|(.inr _)=>some 0) ?_ ?_
 intro i3 b3 ai
 rcases aq with ad|⟨⟩
 cases ai;obtain rfl:=Wab ai;obtain⟨⟩:=b3;dsimp only at h|-;refine bi h fun ar h ak=>?_;refine tt ?_
 refine lX ak (fun|ae,_=>⟨[(2,.one (.ref 0 0 0 0)),(3,.one (.ref 1 0 0 0)),(6,.one (.int .i64 (ae:Int)))],[.cells 0 2 [[.sl (a.Cells.map (eL eI)),.sl (a.Blocks.map (eA4 eI))]],.cells 0 2 [[.sl (b.Cells.map (eL eI)),.sl (b.Blocks.map (eA4 eI))]]]⟩) (fun|(.inl ay),_=>⟨[],[]⟩|(.inr ()),_=>⟨[],[.cells 0 2 [[.sl (a.Cells.map (eL eI)),.sl (a.Blocks.map (eA4 eI))]],.cells 0 2 [[.sl (b.Cells.map (eL eI)),.sl (b.Blocks.map (eA4 eI))]]]⟩) (fun|(.inl _)=>none|(.inr _)=>some 2) ?_ ?_
 intro i10 au af
 rcases ar with ad|⟨⟩
 cases af;obtain rfl:=Wab af;obtain⟨⟩:=au;dsimp only at h|-;cases h;exact fin;intro al aE ae av aF I aa an;obtain⟨⟩:=av;dsimp only[zfu]at I|-;refine tr ?_;intros;refine fl I F ?_ ?_<;>intro I _ F;refine bx I F fun az I aw F=>?_;refine bx I F fun aA I ax F=>?_;refine tr ?_;intros;refine fi I F ?_ ?_<;>intro I _ F;cases I;refine tt ?_;refine wn ae F fun F=>?_;exact bk an aa ();cases I
 obtain rfl:=sr aa
 try dsimp only at h
 cases h;exact fin;cases I;refine tt ?_;exact xt aa al ();intro af3 m3 ab a3 o3 U ho3 ih3;obtain⟨⟩:=a3;dsimp only[zfv]at U|-;refine tr ?_;intros;refine fl U F ?_ ?_<;>intro U _ F;refine bx U F fun aG U aB F=>?_;refine bx U F fun aH U aC F=>?_;refine bi U fun aI U ao=>?_;refine tr ?_;intros;refine cD (zih ao) ?_;refine tr ?_;intros;refine fv U F ?_ ?_<;>intro U _ F;cases U;refine tt ?_
 refine wn ab F fun F=>?_;exact bk ih3 ho3 ();cases U;obtain rfl:=sr ho3
 try dsimp only at h
 cases h;exact fin;cases U;refine tt ?_;exact xt ho3 af3 ();cases h;exact fin;cases h;exact fin
theorem zq8 {a:List xtz} {b:List xtz} {r:Bool} (h:zfe a b=some r):
  Pu prog 36 [.one (.sl (a.map xtu)),.one (.sl (b.map xtu))] (.one (.bool r)):=by
 have F:=trivial;have R:=trivial
 refine pA func36 ?_;simp only[f36];unfold zfe at h;refine tr ?_;intros;refine fi h F ?_ ?_<;>intro h _ F;refine bi h fun ad h ab=>?_;refine tt ?_
 refine lX ab (fun|U,_=>⟨[(0,.one (.sl (a.map xtu))),(1,.one (.sl (b.map xtu))),(5,.one (.int .i64 (U:Int)))],[]⟩) (fun|(.inl aj),_=>⟨[],[]⟩|(.inr ()),_=>⟨[],[]⟩) (fun|(.inl _)=>none|(.inr _)=>some 0) ?_ ?_
 intro i3 b3 aa
 rcases ad with ae|⟨⟩
 cases aa;obtain rfl:=Wab aa;obtain⟨⟩:=b3;dsimp only at h|-;cases h;exact fin;intro af3 m3 U a3 o3 I ho3 ih3;obtain⟨⟩:=a3;dsimp only[zfw]at I|-;refine tr ?_;intros;refine fl I F ?_ ?_<;>intro I _ F;refine bx I F fun ak I af F=>?_;refine bx I F fun al I ai F=>?_;refine tr ?_;intros;refine fi I F ?_ ?_<;>intro I _ F;cases I;refine tt ?_;refine wn U F fun F=>?_;exact bk ih3 ho3 ()
 cases I;obtain rfl:=sr ho3
 try dsimp only at h
 cases h;exact fin;cases I;refine tt ?_;exact xt ho3 af3 ();cases h;exact fin
theorem ztp {a:xtt} {b:xtt} {r:Bool} (h:zhh a b=some r):
  Pu prog 12 [.agg (xt9 a),.agg (xt9 b)] (.one (.bool r)):=by
 have F:=trivial;have R:=trivial
 refine pA func12 ?_;simp only[f12];unfold zhh at h;refine bi h fun ad h I=>?_;refine tr ?_;intros;refine cS (zq6 I) ?_;refine fv h F ?_ ?_<;>intro h _ F;refine bi h fun ae h U=>?_;refine tr ?_;intros;refine cS (zih U) ?_;refine fv h F ?_ ?_<;>intro h _ F;refine bi h fun af h aa=>?_;refine tr ?_;intros;refine cS (zih aa) ?_;refine fv h F ?_ ?_<;>intro h _ F;refine bi h fun ai h ab=>?_
 refine tr ?_;intros;refine cS (zq8 ab) ?_;refine fv h F ?_ ?_<;>intro h _ F;cases h;exact fin;cases h;exact fin;cases h;exact fin;cases h;exact fin;cases h;exact fin
end Go.Lz

end
section
namespace Go.Lz
open Go.Proofs
attribute [-go_sem] zl6 g_b gd_b
set_option maxRecDepth 100000
set_option maxHeartbeats 4000000
noncomputable section
def zpr (t:xt3) (cells:List Int) (i:Int):Option (Int×Bool):=
 (zns t).bind fun I=>if I=0 then((zru t).bind fun U=>if(cells.length:Int)=U then(if t.Len=0 then(some (0,true))else(if t.Low<=i then(some ((w64 (i-t.Low)),(decide (i<(w64 (t.Low+t.Len))))))else(some ((w64 (i-t.Low)),false))))else(some (0,false)))else(some (0,false))
def zrv (t:xt3) (cells:List Int) (i:Int):Option (Int×Int):=
 (zpr t cells i).bind fun I=>if I.2=true then((idx cells I.1).bind fun U=>some (U,0))else(some (0,2))
def zbn (b:Bool):Option Int:=
 if b=true then(some 1)else(some 0)
def zcl (name:Str):Option blocks_kind:=
 if name=([84,79,78]:Str)then(some (⟨[1,4],[1,4],(some 130)⟩:blocks_kind))else(if name=([84,79,70]:Str)then(some (⟨[1,4],[1,4],(some 131)⟩:blocks_kind))else(if name=([84,80]:Str)then(some (⟨[1,4],[1,4],(some 132)⟩:blocks_kind))else(if name=([67,84,85]:Str)then(some (⟨[1,1,2],[1,2],(some 133)⟩:blocks_kind))else(if name=([67,84,68]:Str)then(some (⟨[1,1,2],[1,2],(some 134)⟩:blocks_kind))else(if name=([67,84,85,68]:Str)then(some (⟨[1,1,1,1,2],[1,1,2],(some 135)⟩:blocks_kind))else(if name=([82,95,84,82,73,71]:Str)then(some (⟨[1],[1],(some 136)⟩:blocks_kind))else(if name=([70,95,84,82,73,71]:Str)then(some (⟨[1],[1],(some 137)⟩:blocks_kind))else(if name=([83,82]:Str)then(some (⟨[1,1],[1],(some 138)⟩:blocks_kind))else(if name=([82,83]:Str)then(some (⟨[1,1],[1],(some 139)⟩:blocks_kind))else(some (⟨[],[],none⟩:blocks_kind)))))))))))
def zlt (b:Bool):Option Int:=
 if b=true then(some 1)else(some 0)
def za7 (kind:Int) (n:Int):Option Int:=
 some (zmi kind n)
def zf4 (name:Str) (s:A4 Int) (i:Int):Option Int:=
 if name=([84,79,78]:Str)then(if i<0 then(some 0)else(if 2<=i then(some 0)else(if name=([67,84,85,68]:Str)then((zbn (decide (s.a3<=s.a0))).bind fun bg=>(zbn (decide (s.a0<=0))).bind fun bh=>(zcl name).bind fun bj=>(bj.out[2]?).bind fun bl=>(za7 bl s.a0).bind fun bm=>if i=0 then(some bg)else(if i=1 then(some bh)else(if i=2 then(some bm)else none)))else(if i=0 then((zbn (!(decide (s.a0=0)))).bind fun bn=>some bn)else((zcl name).bind fun bo=>(idx bo.out i).bind fun bp=>(za7 bp s.a1).bind fun bq=>some bq)))))else(if name=([84,79,70]:Str)then(if i<0 then(some 0)else(if 2<=i then(some 0)else(if name=([67,84,85,68]:Str)then((zbn (decide (s.a3<=s.a0))).bind fun I=>(zbn (decide (s.a0<=0))).bind fun U=>(zcl name).bind fun aa=>(aa.out[2]?).bind fun ab=>(za7 ab s.a0).bind fun ad=>if i=0 then(some I)else(if i=1 then(some U)else(if i=2 then(some ad)else none)))else(if i=0 then((zbn (!(decide (s.a0=0)))).bind fun ae=>some ae)else((zcl name).bind fun af=>(idx af.out i).bind fun ai=>(za7 ai s.a1).bind fun aj=>some aj)))))else(if name=([84,80]:Str)then(if i<0 then(some 0)else(if 2<=i then(some 0)else(if name=([67,84,85,68]:Str)then((zbn (decide (s.a3<=s.a0))).bind fun ak=>(zbn (decide (s.a0<=0))).bind fun al=>(zcl name).bind fun an=>(an.out[2]?).bind fun ao=>(za7 ao s.a0).bind fun aq=>if i=0 then(some ak)else(if i=1 then(some al)else(if i=2 then(some aq)else none)))else(if i=0 then((zbn (!(decide (s.a0=0)))).bind fun ar=>some ar)else((zcl name).bind fun au=>(idx au.out i).bind fun av=>(za7 av s.a1).bind fun aw=>some aw)))))else(if name=([67,84,85]:Str)then(if i<0 then(some 0)else(if 2<=i then(some 0)else(if name=([67,84,85,68]:Str)then((zbn (decide (s.a3<=s.a0))).bind fun ax=>(zbn (decide (s.a0<=0))).bind fun ay=>(zcl name).bind fun az=>(az.out[2]?).bind fun aA=>(za7 aA s.a0).bind fun aB=>if i=0 then(some ax)else(if i=1 then(some ay)else(if i=2 then(some aB)else none)))else(if i=0 then((zbn (!(decide (s.a0=0)))).bind fun aC=>some aC)else((zcl name).bind fun aD=>(idx aD.out i).bind fun aE=>(za7 aE s.a1).bind fun aF=>some aF)))))else(if name=([67,84,68]:Str)then(if i<0 then(some 0)else(if 2<=i then(some 0)else(if name=([67,84,85,68]:Str)then((zbn (decide (s.a3<=s.a0))).bind fun aG=>(zbn (decide (s.a0<=0))).bind fun aH=>(zcl name).bind fun aI=>(aI.out[2]?).bind fun aJ=>(za7 aJ s.a0).bind fun aK=>if i=0 then(some aG)else(if i=1 then(some aH)else(if i=2 then(some aK)else none)))else(if i=0 then((zbn (!(decide (s.a0=0)))).bind fun aL=>some aL)else((zcl name).bind fun aM=>(idx aM.out i).bind fun aN=>(za7 aN s.a1).bind fun aO=>some aO)))))else(if name=([67,84,85,68]:Str)then(if i<0 then(some 0)else(if 3<=i then(some 0)else((zbn (decide (s.a3<=s.a0))).bind fun aP=>(zbn (decide (s.a0<=0))).bind fun aQ=>(zcl name).bind fun aR=>(aR.out[2]?).bind fun aS=>(za7 aS s.a0).bind fun aT=>if i=0 then(some aP)else(if i=1 then(some aQ)else(if i=2 then(some aT)else none)))))else(if name=([82,95,84,82,73,71]:Str)then(if i<0 then(some 0)else(if 1<=i then(some 0)else(if i=0 then((zbn (!(decide (s.a0=0)))).bind fun aU=>some aU)else((zcl name).bind fun aV=>(idx aV.out i).bind fun aW=>(za7 aW s.a1).bind fun aX=>some aX))))else(if name=([70,95,84,82,73,71]:Str)then(if i<0 then(some 0)else(if 1<=i then(some 0)else(if i=0 then((zbn (!(decide (s.a0=0)))).bind fun aY=>some aY)else((zcl name).bind fun aZ=>(idx aZ.out i).bind fun a4=>(za7 a4 s.a1).bind fun a5=>some a5))))else(if name=([83,82]:Str)then(if i<0 then(some 0)else(if 1<=i then(some 0)else(if i=0 then((zbn (!(decide (s.a0=0)))).bind fun a6=>some a6)else((zcl name).bind fun a7=>(idx a7.out i).bind fun a8=>(za7 a8 s.a1).bind fun a9=>some a9))))else(if name=([82,83]:Str)then(if i<0 then(some 0)else(if 1<=i then(some 0)else(if i=0 then((zbn (!(decide (s.a0=0)))).bind fun ba=>some ba)else((zcl name).bind fun bb=>(idx bb.out i).bind fun bc=>(za7 bc s.a1).bind fun bf=>some bf))))else(if i<0 then(some 0)else(if 0<=i then(some 0)else none)))))))))))
def zj2 (op:Int) (kind:Int):Option Int:=
 (ze5 kind).bind fun I=>if I=0 then(some 0)else(if op=5 then(if kind=1 then(some 0)else(some kind))else(if op=7 then(if kind=1 then(some 0)else(some kind))else(if op=8 then(if kind=1 then(some 0)else(some kind))else(if op=9 then(if kind=1 then(some 0)else(some kind))else(if op=10 then(if kind=1 then(some 0)else(some kind))else(if op=11 then(if kind=1 then(some 0)else(some kind))else(if op=6 then(if kind=4 then(some 0)else(some kind))else(if op=18 then(if kind=4 then(some 0)else(some kind))else(if op=19 then(if kind=4 then(some 0)else(some kind))else(if op=20 then(if kind=4 then(some 0)else(some kind))else(if op=12 then(some 1)else(if op=13 then(some 1)else(if op=14 then(if kind=1 then(some 0)else(some 1))else(if op=15 then(if kind=1 then(some 0)else(some 1))else(if op=16 then(if kind=1 then(some 0)else(some 1))else(if op=17 then(if kind=1 then(some 0)else(some 1))else(some 0)))))))))))))))))
def zn0 (name:Str):Option (List Int):=
 if name=([84,79,78]:Str)then(some [1,4])else(if name=([84,79,70]:Str)then(some [1,4])else(if name=([84,80]:Str)then(some [1,4])else(if name=([67,84,85]:Str)then(some [1,2])else(if name=([67,84,68]:Str)then(some [1,2])else(if name=([67,84,85,68]:Str)then(some [1,1,2])else(if name=([82,95,84,82,73,71]:Str)then(some [1])else(if name=([70,95,84,82,73,71]:Str)then(some [1])else(if name=([83,82]:Str)then(some [1])else(if name=([82,83]:Str)then(some [1])else(some []))))))))))
def zd6 (s:List Int) (f:(Int->Option Bool)):Nat->Option ((Nat)⊕(Int⊕Unit))
 |I=>if(I:Int)<(s.length:Int)then((s[I]?).bind fun U=>(f U).bind fun aa=>if aa=true then(some (.inr (.inl ((I:Int)))))else(some (.inl (I+1))))else(some (.inr (.inr (()))))
def zft (s:List Int) (f:(Int->Option Bool)):Option Int:=
 (loop (zd6 s f) 0).bind (fun I=>match I with|(.inl U)=>some U|(.inr ())=>some (-1))
def zct (s:List Int) (f:(Int->Option Bool)):Option Bool:=
 (zft s f).bind fun I=>some (decide (0<=I))
def zml (U:List Int) (k:Int):Option Bool:=
 (U[0]?).bind fun I=>some (!(decide (k=I)))
def zds (I:xtm->xtn->Option Int) (p:xtm) (e:xtn):((List Int)×Nat)->Option (((List Int)×Nat)⊕(List Int))
 |(aa,U)=>if(U:Int)<(e.Args.length:Int)then((e.Args[U]?).bind fun ab=>(I p ab).bind fun ad=>(aa[U]?).bind fun ae=>some (.inl ((aa.set U ad),(U+1))))else(some (.inr (aa)))
def zmk (U:xtm->xtn->Option Int) (p:xtm) (e:xtn):Option Int:=
 need (0<=(e.Args.length:Int)/\8*(e.Args.length:Int)<=140737488355328) ((loop (zds U p e) ((List.replicate e.Args.length 0),0)).bind (fun I=>if e.Op=1 then(some e.Kind)else(if e.Op=2 then((zlo p e.Name).bind fun aa=>if aa<0 then(some 0)else((idx p.Vars aa).bind fun ab=>if((decide (0<ab.Type_.Len))==(decide (e.Op=3)))=true then(if e.Op=3 then none else(some ab.Type_.Kind))else(some 0)))else(if e.Op=3 then((zlo p e.Name).bind fun ad=>if ad<0 then(some 0)else((idx p.Vars ad).bind fun ae=>if 0<ae.Type_.Len then(if(I.length:Int)=1 then((I[0]?).bind fun aj=>if aj=2 then(some ae.Type_.Kind)else(some 0))else(some 0))else(some 0)))else(if e.Op=4 then((zly p e.Name).bind fun af=>if af<0 then(some 0)else((idx p.Blocks af).bind fun ak=>(zn0 ak.Kind).bind fun ai=>if 0<=e.N then(if e.N<(ai.length:Int)then((idx ai e.N).bind fun al=>some al)else(some 0))else(some 0)))else(if e.Op=21 then((znk p e.Name).bind fun an=>if 0<=an then(if(I.length:Int)=1 then((I[0]?).bind fun ao=>some ao)else(some 0))else(some 0))else(if 0<(I.length:Int)then((zct I (zml I)).bind fun aq=>if aq=true then(some 0)else((I[0]?).bind fun ar=>(zj2 e.Op ar).bind fun au=>some au))else(some 0))))))))
def zmj:Nat->(xtm->xtn->Option Int)
 |0=>fun _ _=>none
 |n+1=>zmk (zmj n)
def z2a (n:Nat) (p:xtm) (e:xtn):Option Int:=(zmj n) p e
def zwo (p:xtm) (e:xtn):Option Int:=z2a 1000000 p e
def zkq (p:xtm) (e:xtn):Option (Int×Bool):=
 (zwo p e).bind fun I=>some (I,(!(decide (I=0))))
def zj6 (op:Int) (kind:Int) (a:Int):Option Int:=
 (zj2 op kind).bind fun U=>if U=0 then(some 0)else((za7 kind a).bind fun I=>if op=5 then((za7 kind (w64 (0-I))).bind fun aa=>some aa)else(if op=6 then(if kind=1 then(some (w64 (1-I)))else(some (xnot .i64 I)))else(some 0)))
def zmf (op:Int) (a:Int) (b:Int):Option Int:=
 if op=12 then((zlt (decide (a=b))).bind fun I=>some I)else(if op=13 then((zlt (!(decide (a=b)))).bind fun U=>some U)else(if op=14 then((zlt (decide (a<b))).bind fun aa=>some aa)else(if op=15 then((zlt (decide (a<=b))).bind fun ab=>some ab)else(if op=16 then((zlt (decide (b<a))).bind fun ad=>some ad)else((zlt (decide (b<=a))).bind fun ae=>some ae)))))
def zk5 (op:Int) (kind:Int) (a:Int) (b:Int):Option (Int×Int):=
 if op=5 then(some (0,0))else(if op=6 then(some (0,0))else((zj2 op kind).bind fun aj=>if aj=0 then(some (0,0))else((za7 kind a).bind fun U=>(za7 kind b).bind fun I=>if op=7 then((za7 kind (w64 (U*I))).bind fun ak=>some (ak,0))else(if op=8 then(if I=0 then(some (0,1))else(need (¬I=0) (if op=9 then none else((za7 kind (w64 (U.tdiv I))).bind fun al=>some (al,0)))))else(if op=9 then(if I=0 then(some (0,1))else(need (¬I=0) (need (¬I=0) ((za7 kind (U.tmod I)).bind fun an=>some (an,0)))))else(if op=10 then((za7 kind (w64 (U+I))).bind fun aa=>some (aa,0))else(if op=11 then((za7 kind (w64 (U-I))).bind fun ab=>some (ab,0))else(if op=18 then((za7 kind (w64 (andI .i64 U I))).bind fun ad=>some (ad,0))else(if op=19 then((za7 kind (w64 (xorI .i64 U I))).bind fun ae=>some (ae,0))else(if op=20 then((za7 kind (w64 (orI .i64 U I))).bind fun af=>some (af,0))else((zmf op U I).bind fun ai=>some (ai,0))))))))))))
end
theorem z1g {t:xt3} {cells:List Int} {i:Int} {r:Int×Bool} (h:zpr t cells i=some r):
  Pu prog 92 [.agg (xt7 t),.one (.sl (cells.map eI)),.one (.int .i64 i)] (.tup [.one (.int .i64 r.1),.one (.bool r.2)]):=by
 have F:=trivial;have R:=trivial
 refine pA func92 ?_;simp only[f92];unfold zpr at h;refine bi h fun aa h I=>?_;refine tr ?_;intros;refine cS (zwm I) ?_;refine fi h F ?_ ?_<;>intro h _ F;refine bi h fun ab h U=>?_;refine tr ?_;intros;refine cS (z3k U) ?_;refine fi h F ?_ ?_<;>intro h _ F;refine tt ?_;refine fi h F ?_ ?_<;>intro h _ F;cases h;exact fin;refine tr ?_;intros;refine fi h F ?_ ?_<;>intro h _ F;cases h;exact fin
 cases h;exact fin;cases h;exact fin;cases h;exact fin
theorem zzg {t:xt3} {cells:List Int} {i:Int} {r:Int×Int} (h:zrv t cells i=some r):
  Pu prog 61 [.agg (xt7 t),.one (.sl (cells.map eI)),.one (.int .i64 i)] (.tup [.one (.int .i64 r.1),.one (.int .i64 r.2)]):=by
 have F:=trivial;have R:=trivial
 refine pA func61 ?_;simp only[f61];unfold zrv at h;refine bi h fun aa h I=>?_;refine tr ?_;intros;refine cS (z1g I) ?_;refine tt ?_;refine fv h F ?_ ?_<;>intro h _ F;refine by_ h F fun ab h U F=>?_;cases h;exact fin;cases h;exact fin
theorem zbe {b:Bool} {r:Int} (h:zbn b=some r):
  Pu prog 96 [.one (.bool b)] (.one (.int .i64 r)):=by
 have F:=trivial;have R:=trivial
 refine pA func96 ?_;simp only[f96];unfold zbn at h;refine fv h F ?_ ?_<;>intro h _ F;cases h;exact fin;cases h;exact fin
theorem zc4 {name:Str} {r:blocks_kind} (h:zcl name=some r):
  Pu prog 95 [.one (.str name)] (.agg (zo0 r)):=by
 have F:=trivial;have R:=trivial
 refine pA func95 ?_;simp only[f95];unfold zcl at h;refine tr ?_;intros;refine fi h F ?_ ?_<;>intro h _ F;refine tr ?_;intros;refine iS func129 ?_;simp only[f129];cases h;exact fin;refine fi h F ?_ ?_<;>intro h _ F;refine tr ?_;intros;refine iS func129 ?_;simp only[f129];cases h;exact fin;refine fi h F ?_ ?_<;>intro h _ F;refine tr ?_;intros;refine iS func129 ?_;simp only[f129];cases h;exact fin
 refine fi h F ?_ ?_<;>intro h _ F;refine tr ?_;intros;refine iS func129 ?_;simp only[f129];cases h;exact fin;refine tt ?_;refine fi h F ?_ ?_<;>intro h _ F;refine tr ?_;intros;refine iS func129 ?_;simp only[f129];cases h;exact fin;refine fi h F ?_ ?_<;>intro h _ F;cases h;exact fin;refine fi h F ?_ ?_<;>intro h _ F;refine tr ?_;intros;refine iS func129 ?_;simp only[f129];cases h;exact fin
 refine fi h F ?_ ?_<;>intro h _ F;refine tr ?_;intros;refine iS func129 ?_;simp only[f129];cases h;exact fin;refine tt ?_;refine fi h F ?_ ?_<;>intro h _ F;refine tr ?_;intros;refine iS func129 ?_;simp only[f129];cases h;exact fin;refine fi h F ?_ ?_<;>intro h _ F;refine tr ?_;intros;refine iS func129 ?_;simp only[f129];cases h;exact fin;cases h;exact fin
theorem zl0 {b:Bool} {r:Int} (h:zlt b=some r):
  Pu prog 141 [.one (.bool b)] (.one (.int .i64 r)):=by
 have F:=trivial;have R:=trivial
 refine pA func141 ?_;simp only[f141];unfold zlt at h;refine fv h F ?_ ?_<;>intro h _ F;cases h;exact fin;cases h;exact fin
theorem za3 {kind:Int} {n:Int} {r:Int} (h:za7 kind n=some r):
  Pu prog 97 [.one (.int .i64 kind),.one (.int .i64 n)] (.one (.int .i64 r)):=by
 have F:=trivial;have R:=trivial
 cases h;refine pA func97 ?_;simp only[f97];refine tt ?_
 rcases kinds kind with rfl|rfl|rfl|rfl|⟨h1,h2,h3,h4⟩
 ·refine cS (zjb (show ze5 1=some 1 by simp[ze5])) ?_
  refine tt ?_;refine cS (zl0 (show zlt (!decide (n=0))=some (zmi 1 n) by by_cases hn:n=0<;>simp[zlt,zmi,hn])) ?_;exact fin
 ·refine cS (zjb (show ze5 2=some 16 by simp[ze5])) ?_
  refine tt ?_
  iterate 6
   refine z5l (by rfl) (by kernel_rfl) ?_;refine tt ?_
  rw[z6z];simp only[show∀n:Int,IntKind.i64.wrap n=_ from zn1];rw[Wb0 _ (by decide)];simp only[V.one.injEq,C.int.injEq,true_and];omega
 ·refine cS (zjb (show ze5 3=some 32 by simp[ze5])) ?_
  refine tt ?_
  iterate 4
   refine z5l (by rfl) (by kernel_rfl) ?_;refine tt ?_
  rw[z6y];simp only[show∀n:Int,IntKind.i64.wrap n=_ from zn1];rw[Wb0 _ (by decide)];simp only[V.one.injEq,C.int.injEq,true_and];omega
 ·refine cS (zjb (show ze5 4=some 32 by simp[ze5])) ?_
  refine tt ?_
  iterate 4
   refine z5l (by rfl) (by kernel_rfl) ?_;refine tt ?_
  rw[z6x];simp only[show∀n:Int,IntKind.i64.wrap n=_ from zn1];rw[Wb0 _ (by decide)];simp only[V.one.injEq,C.int.injEq,true_and];omega
 ·refine cS (zjb (show ze5 kind=some 0 by simp[ze5,h1,h2,h3,h4])) ?_
  rw[yfw h1 h2 h3 h4]
  have F:=And.intro (eq_false h1) F
  exact fin
theorem z3l {name:Str} {s:A4 Int} {i:Int} {r:Int} (h:zf4 name s i=some r):
  Pu prog 63 [.one (.str name),.agg ((eA4 eI) s),.one (.int .i64 i)] (.one (.int .i64 r)):=by
 have F:=trivial;have R:=trivial
 refine pA func63 ?_;simp only[f63];unfold zf4 at h;refine tr ?_;intros;refine iS func95 ?_;simp only[f95];refine tr ?_;intros;refine fi h F ?_ ?_<;>intro h _ F;refine tr ?_;intros;refine iS func129 ?_;simp only[f129];refine tr ?_;intros;refine fi h F ?_ ?_<;>intro h _ F;cases h;exact fin;refine fi h F ?_ ?_<;>intro h _ F;cases h;exact fin;refine tt ?_;refine fi h F ?_ ?_<;>intro h _ F
 refine bi h fun cu h aX=>?_;refine tr ?_;intros;refine cD (zbe aX) ?_;refine bi h fun cv h aY=>?_;refine tr ?_;intros;refine cD (zbe aY) ?_;refine bi h fun cw h aZ=>?_;refine tr ?_;intros;refine cD (zc4 aZ) ?_;refine bx h F fun cx h bp F=>?_;refine bi h fun cy h a4=>?_;refine tr ?_;intros;refine cD (za3 a4) ?_;refine tr ?_;intros;refine fe h F ?_ ?_<;>intro h _ F;cases h;exact fin;refine tr ?_
 intros;refine fe h F ?_ ?_<;>intro h _ F;cases h;exact fin;refine tr ?_;intros;refine fe h F ?_ ?_<;>intro h _ F;cases h;exact fin;cases h;refine fi h F ?_ ?_<;>intro h _ F;refine bi h fun cA h a5=>?_;refine tr ?_;intros;refine cS (zbe a5) ?_;cases h;exact fin;refine bi h fun cB h a6=>?_;refine tr ?_;intros;refine cD (zc4 a6) ?_;refine by_ h F fun cC h bq F=>?_;refine bi h fun cE h a7=>?_
 refine tr ?_;intros;refine cD (za3 a7) ?_;cases h;exact fin;refine fi h F ?_ ?_<;>intro h _ F;refine tr ?_;intros;refine iS func129 ?_;simp only[f129];refine tr ?_;intros;refine fi h F ?_ ?_<;>intro h _ F;cases h;exact fin;refine fi h F ?_ ?_<;>intro h _ F;cases h;exact fin;refine tt ?_;refine fi h F ?_ ?_<;>intro h _ F;refine bi h fun br h I=>?_;refine tr ?_;intros;refine cD (zbe I) ?_
 refine bi h fun bs h U=>?_;refine tr ?_;intros;refine cD (zbe U) ?_;refine bi h fun bt h aa=>?_;refine tr ?_;intros;refine cD (zc4 aa) ?_;refine bx h F fun bu h a8 F=>?_;refine bi h fun bw h ab=>?_;refine tr ?_;intros;refine cD (za3 ab) ?_;refine tr ?_;intros;refine fe h F ?_ ?_<;>intro h _ F;cases h;exact fin;refine tr ?_;intros;refine fe h F ?_ ?_<;>intro h _ F;cases h;exact fin;refine tr ?_
 intros;refine fe h F ?_ ?_<;>intro h _ F;cases h;exact fin;cases h;refine fi h F ?_ ?_<;>intro h _ F;refine bi h fun bz h ad=>?_;refine tr ?_;intros;refine cS (zbe ad) ?_;cases h;exact fin;refine bi h fun bA h ae=>?_;refine tr ?_;intros;refine cD (zc4 ae) ?_;refine by_ h F fun bB h a9 F=>?_;refine bi h fun bC h af=>?_;refine tr ?_;intros;refine cD (za3 af) ?_;cases h;exact fin;refine fi h F ?_ ?_<;>intro h _ F
 refine tr ?_;intros;refine iS func129 ?_;simp only[f129];refine tr ?_;intros;refine fi h F ?_ ?_<;>intro h _ F;cases h;exact fin;refine fi h F ?_ ?_<;>intro h _ F;cases h;exact fin;refine tt ?_;refine fi h F ?_ ?_<;>intro h _ F;refine bi h fun bD h ai=>?_;refine tr ?_;intros;refine cD (zbe ai) ?_;refine bi h fun bE h aj=>?_;refine tr ?_;intros;refine cD (zbe aj) ?_;refine bi h fun bF h ak=>?_
 refine tr ?_;intros;refine cD (zc4 ak) ?_;refine bx h F fun bG h ba F=>?_;refine bi h fun bH h al=>?_;refine tr ?_;intros;refine cD (za3 al) ?_;refine tr ?_;intros;refine fe h F ?_ ?_<;>intro h _ F;cases h;exact fin;refine tr ?_;intros;refine fe h F ?_ ?_<;>intro h _ F;cases h;exact fin;refine tr ?_;intros;refine fe h F ?_ ?_<;>intro h _ F;cases h;exact fin;cases h;refine fi h F ?_ ?_<;>intro h _ F
 refine bi h fun bI h an=>?_;refine tr ?_;intros;refine cS (zbe an) ?_;cases h;exact fin;refine bi h fun bJ h ao=>?_;refine tr ?_;intros;refine cD (zc4 ao) ?_;refine by_ h F fun bK h bb F=>?_;refine bi h fun bL h aq=>?_;refine tr ?_;intros;refine cD (za3 aq) ?_;cases h;exact fin;refine fi h F ?_ ?_<;>intro h _ F;refine tr ?_;intros;refine iS func129 ?_;simp only[f129];refine tr ?_;intros
 refine fi h F ?_ ?_<;>intro h _ F;cases h;exact fin;refine fi h F ?_ ?_<;>intro h _ F;cases h;exact fin;refine tt ?_;refine fi h F ?_ ?_<;>intro h _ F;refine bi h fun bM h ar=>?_;refine tr ?_;intros;refine cD (zbe ar) ?_;refine bi h fun bN h au=>?_;refine tr ?_;intros;refine cD (zbe au) ?_;refine bi h fun bO h av=>?_;refine tr ?_;intros;refine cD (zc4 av) ?_;refine bx h F fun bP h bc F=>?_
 refine bi h fun bQ h aw=>?_;refine tr ?_;intros;refine cD (za3 aw) ?_;refine tr ?_;intros;refine fe h F ?_ ?_<;>intro h _ F;cases h;exact fin;refine tr ?_;intros;refine fe h F ?_ ?_<;>intro h _ F;cases h;exact fin;refine tr ?_;intros;refine fe h F ?_ ?_<;>intro h _ F;cases h;exact fin;cases h;refine fi h F ?_ ?_<;>intro h _ F;refine bi h fun bR h ax=>?_;refine tr ?_;intros;refine cS (zbe ax) ?_
 cases h;exact fin;refine bi h fun bS h ay=>?_;refine tr ?_;intros;refine cD (zc4 ay) ?_;refine by_ h F fun bT h bf F=>?_;refine bi h fun bU h az=>?_;refine tr ?_;intros;refine cD (za3 az) ?_;cases h;exact fin;refine tt ?_;refine fi h F ?_ ?_<;>intro h _ F;refine tr ?_;intros;refine iS func129 ?_;simp only[f129];refine tr ?_;intros;refine fi h F ?_ ?_<;>intro h _ F;cases h;exact fin
 refine fi h F ?_ ?_<;>intro h _ F;cases h;exact fin;refine tt ?_;refine fi h F ?_ ?_<;>intro h _ F;refine bi h fun bV h aA=>?_;refine tr ?_;intros;refine cD (zbe aA) ?_;refine bi h fun bW h aB=>?_;refine tr ?_;intros;refine cD (zbe aB) ?_;refine bi h fun bX h aC=>?_;refine tr ?_;intros;refine cD (zc4 aC) ?_;refine bx h F fun bY h bg F=>?_;refine bi h fun bZ h aD=>?_;refine tr ?_;intros
 refine cD (za3 aD) ?_;refine tr ?_;intros;refine fe h F ?_ ?_<;>intro h _ F;cases h;exact fin;refine tr ?_;intros;refine fe h F ?_ ?_<;>intro h _ F;cases h;exact fin;refine tr ?_;intros;refine fe h F ?_ ?_<;>intro h _ F;cases h;exact fin;cases h;refine fi h F ?_ ?_<;>intro h _ F;refine bi h fun b0 h aE=>?_;refine tr ?_;intros;refine cS (zbe aE) ?_;cases h;exact fin;refine bi h fun b1 h aF=>?_
 refine tr ?_;intros;refine cD (zc4 aF) ?_;refine by_ h F fun b2 h bh F=>?_;refine bi h fun b3 h aG=>?_;refine tr ?_;intros;refine cD (za3 aG) ?_;cases h;exact fin;refine fi h F ?_ ?_<;>intro h _ F;refine tr ?_;intros;refine fi h F ?_ ?_<;>intro h _ F;cases h;exact fin;refine fi h F ?_ ?_<;>intro h _ F;cases h;exact fin;refine bi h fun b4 h aH=>?_;refine tr ?_;intros;refine cD (zbe aH) ?_
 refine bi h fun b5 h aI=>?_;refine tr ?_;intros;refine cD (zbe aI) ?_;refine bi h fun b6 h aJ=>?_;refine tr ?_;intros;refine cD (zc4 aJ) ?_;refine bx h F fun b7 h bj F=>?_;refine bi h fun b8 h aK=>?_;refine tr ?_;intros;refine cD (za3 aK) ?_;refine tr ?_;intros;refine fe h F ?_ ?_<;>intro h _ F;cases h;exact fin;refine tr ?_;intros;refine fe h F ?_ ?_<;>intro h _ F;cases h;exact fin
 refine tr ?_;intros;refine fe h F ?_ ?_<;>intro h _ F;cases h;exact fin;cases h;refine fi h F ?_ ?_<;>intro h _ F;refine tr ?_;intros;refine iS func129 ?_;simp only[f129];refine tr ?_;intros;refine fi h F ?_ ?_<;>intro h _ F;cases h;exact fin;refine fi h F ?_ ?_<;>intro h _ F;cases h;exact fin;refine tt ?_;refine fi h F ?_ ?_<;>intro h _ F;refine bi h fun b9 h aL=>?_;refine tr ?_
 intros;refine cS (zbe aL) ?_;cases h;exact fin;refine bi h fun ca h aM=>?_;refine tr ?_;intros;refine cD (zc4 aM) ?_;refine by_ h F fun cb h bl F=>?_;refine bi h fun cc h aN=>?_;refine tr ?_;intros;refine cD (za3 aN) ?_;cases h;exact fin;refine fi h F ?_ ?_<;>intro h _ F;refine tr ?_;intros;refine iS func129 ?_;simp only[f129];refine tr ?_;intros;refine fi h F ?_ ?_<;>intro h _ F;cases h;exact fin
 refine fi h F ?_ ?_<;>intro h _ F;cases h;exact fin;refine tt ?_;refine fi h F ?_ ?_<;>intro h _ F;refine bi h fun cd h aO=>?_;refine tr ?_;intros;refine cS (zbe aO) ?_;cases h;exact fin;refine bi h fun cf h aP=>?_;refine tr ?_;intros;refine cD (zc4 aP) ?_;refine by_ h F fun cg h bm F=>?_;refine bi h fun ch h aQ=>?_;refine tr ?_;intros;refine cD (za3 aQ) ?_;cases h;exact fin;refine tt ?_
 refine fi h F ?_ ?_<;>intro h _ F;refine tr ?_;intros;refine iS func129 ?_;simp only[f129];refine tr ?_;intros;refine fi h F ?_ ?_<;>intro h _ F;cases h;exact fin;refine fi h F ?_ ?_<;>intro h _ F;cases h;exact fin;refine tt ?_;refine fi h F ?_ ?_<;>intro h _ F;refine bi h fun cj h aR=>?_;refine tr ?_;intros;refine cS (zbe aR) ?_;cases h;exact fin;refine bi h fun ck h aS=>?_;refine tr ?_
 intros;refine cD (zc4 aS) ?_;refine by_ h F fun cm h bn F=>?_;refine bi h fun cn h aT=>?_;refine tr ?_;intros;refine cD (za3 aT) ?_;cases h;exact fin;refine fi h F ?_ ?_<;>intro h _ F;refine tr ?_;intros;refine iS func129 ?_;simp only[f129];refine tr ?_;intros;refine fi h F ?_ ?_<;>intro h _ F;cases h;exact fin;refine fi h F ?_ ?_<;>intro h _ F;cases h;exact fin;refine tt ?_;refine fi h F ?_ ?_<;>intro h _ F
 refine bi h fun cp h aU=>?_;refine tr ?_;intros;refine cS (zbe aU) ?_;cases h;exact fin;refine bi h fun cq h aV=>?_;refine tr ?_;intros;refine cD (zc4 aV) ?_;refine by_ h F fun cr h bo F=>?_;refine bi h fun ct h aW=>?_;refine tr ?_;intros;refine cD (za3 aW) ?_;cases h;exact fin;refine tr ?_;intros;refine fi h F ?_ ?_<;>intro h _ F;cases h;exact fin;refine fi h F ?_ ?_<;>intro h _ F
 cases h;exact fin;exact(by omega:False).elim
theorem zqr {op:Int} {kind:Int} {r:Int} (h:zj2 op kind=some r):
  Pu prog 101 [.one (.int .i64 op),.one (.int .i64 kind)] (.one (.int .i64 r)):=by
 have F:=trivial;have R:=trivial
 refine pA func101 ?_;simp only[f101];unfold zj2 at h;refine bi h fun U h I=>?_;refine tr ?_;intros;refine cS (zjb I) ?_;refine fi h F ?_ ?_<;>intro h _ F;cases h;exact fin;refine tt ?_;refine fi h F ?_ ?_<;>intro h _ F;refine fi h F ?_ ?_<;>intro h _ F;cases h;exact fin;cases h;exact fin;refine fi h F ?_ ?_<;>intro h _ F;refine fi h F ?_ ?_<;>intro h _ F;cases h;exact fin;cases h;exact fin
 refine fi h F ?_ ?_<;>intro h _ F;refine fi h F ?_ ?_<;>intro h _ F;cases h;exact fin;cases h;exact fin;refine fi h F ?_ ?_<;>intro h _ F;refine tt ?_;refine fi h F ?_ ?_<;>intro h _ F;cases h;exact fin;cases h;exact fin;refine tt ?_;refine fi h F ?_ ?_<;>intro h _ F;refine fi h F ?_ ?_<;>intro h _ F;cases h;exact fin;cases h;exact fin;refine fi h F ?_ ?_<;>intro h _ F;refine fi h F ?_ ?_<;>intro h _ F
 cases h;exact fin;cases h;exact fin;refine fi h F ?_ ?_<;>intro h _ F;refine fi h F ?_ ?_<;>intro h _ F;cases h;exact fin;cases h;exact fin;refine fi h F ?_ ?_<;>intro h _ F;refine tt ?_;refine fi h F ?_ ?_<;>intro h _ F;cases h;exact fin;cases h;exact fin;refine tt ?_;refine fi h F ?_ ?_<;>intro h _ F;refine fi h F ?_ ?_<;>intro h _ F;cases h;exact fin;cases h;exact fin;refine fi h F ?_ ?_<;>intro h _ F
 refine fi h F ?_ ?_<;>intro h _ F;cases h;exact fin;cases h;exact fin;refine fi h F ?_ ?_<;>intro h _ F;cases h;exact fin;refine fi h F ?_ ?_<;>intro h _ F;cases h;exact fin;refine tt ?_;refine fi h F ?_ ?_<;>intro h _ F;refine fi h F ?_ ?_<;>intro h _ F;cases h;exact fin;cases h;exact fin;refine fi h F ?_ ?_<;>intro h _ F;refine fi h F ?_ ?_<;>intro h _ F;cases h;exact fin;cases h;exact fin
 refine fi h F ?_ ?_<;>intro h _ F;refine fi h F ?_ ?_<;>intro h _ F;cases h;exact fin;cases h;exact fin;refine fi h F ?_ ?_<;>intro h _ F;refine tt ?_;refine fi h F ?_ ?_<;>intro h _ F;cases h;exact fin;cases h;exact fin;cases h;exact fin
theorem zys {name:Str} {r:List Int} (h:zn0 name=some r):
  Pu prog 145 [.one (.str name)] (.one (.sl (r.map eI))):=by
 have F:=trivial;have R:=trivial
 refine pA func145 ?_;simp only[f145];unfold zn0 at h;refine tr ?_;intros;refine iS func95 ?_;simp only[f95];refine tr ?_;intros;refine fi h F ?_ ?_<;>intro h _ F;refine tr ?_;intros;refine iS func129 ?_;simp only[f129];cases h;exact fin;refine fi h F ?_ ?_<;>intro h _ F;refine tr ?_;intros;refine iS func129 ?_;simp only[f129];cases h;exact fin;refine fi h F ?_ ?_<;>intro h _ F;refine tr ?_
 intros;refine iS func129 ?_;simp only[f129];cases h;exact fin;refine fi h F ?_ ?_<;>intro h _ F;refine tr ?_;intros;refine iS func129 ?_;simp only[f129];cases h;exact fin;refine tt ?_;refine fi h F ?_ ?_<;>intro h _ F;refine tr ?_;intros;refine iS func129 ?_;simp only[f129];cases h;exact fin;refine fi h F ?_ ?_<;>intro h _ F;cases h;exact fin;refine fi h F ?_ ?_<;>intro h _ F;refine tr ?_
 intros;refine iS func129 ?_;simp only[f129];cases h;exact fin;refine fi h F ?_ ?_<;>intro h _ F;refine tr ?_;intros;refine iS func129 ?_;simp only[f129];cases h;exact fin;refine tt ?_;refine fi h F ?_ ?_<;>intro h _ F;refine tr ?_;intros;refine iS func129 ?_;simp only[f129];cases h;exact fin;refine fi h F ?_ ?_<;>intro h _ F;refine tr ?_;intros;refine iS func129 ?_;simp only[f129];cases h;exact fin
 cases h;exact fin
theorem zo7 {s:List Int} {f:(Int->Option Bool)} {r:Int}
  {f_f:FuncId} {f_c:List C} (ab:Clo f_c) (ad:∀(x0:Int) (r:Bool),f x0=some r->Pu prog f_f ([.one (.int .i64 x0)]++f_c.map V.one) (.one (.bool r))) (h:zft s f=some r):
  Pu prog 168 [.one (.sl (s.map eI)),.one (.fn f_f f_c)] (.one (.int .i64 r)):=by
 have F:=trivial;have R:=trivial
 refine pA func168 ?_;simp only[f168];unfold zft at h
 have F:=And.intro ab.all F
 refine bi h fun ai h ae=>?_;refine tr ?_;intros
 refine lX ae (fun|U,_=>⟨[(0,.one (.sl (s.map eI))),(1,.one (.fn f_f f_c)),(7,.one (.int .i64 (s.length:Int))),(8,.one (.int .i64 (U:Int)))],[]⟩) (fun|(.inl al),_=>⟨[],[]⟩|(.inr ()),_=>⟨[],[]⟩) (fun|(.inl _)=>none|(.inr _)=>some 0) ?_ ?_
 intro i3 b3 aa
 rcases ai with aj|⟨⟩
 cases aa;obtain rfl:=Wab aa;obtain⟨⟩:=b3;dsimp only at h|-;cases h;exact fin;intro af3 m3 U a3 o3 I ho3 ih3;obtain⟨⟩:=a3;dsimp only[zd6]at I|-;refine fl I F ?_ ?_<;>intro I _ F;refine bx I F fun an I ak F=>?_;refine bi I fun ao I af=>?_;refine tr ?_;intros;refine cS (ad _ _ af) ?_;refine fv I F ?_ ?_<;>intro I _ F;cases I;obtain rfl:=sr ho3
 try dsimp only at h
 cases h;exact fin;cases I;refine tt ?_;refine wn U F fun F=>?_;exact bk ih3 ho3 ();cases I;refine tt ?_;exact xt ho3 af3 ()
theorem zn3 {s:List Int} {f:(Int->Option Bool)} {r:Bool}
  {f_f:FuncId} {f_c:List C} (I:Clo f_c) (U:∀(x0:Int) (r:Bool),f x0=some r->Pu prog f_f ([.one (.int .i64 x0)]++f_c.map V.one) (.one (.bool r))) (h:zct s f=some r):
  Pu prog 146 [.one (.sl (s.map eI)),.one (.fn f_f f_c)] (.one (.bool r)):=by
 have F:=trivial;have R:=trivial
 refine pA func146 ?_;simp only[f146];unfold zct at h
 have F:=And.intro I.all F
 refine bi h fun ab h aa=>?_;refine tr ?_;intros;refine cS (zo7 (f_f:=f_f) (f_c:=f_c) I U aa) ?_;cases h;exact fin
theorem zzk {I:List Int} {k:Int} {r:Bool} (h:zml I k=some r):
  Pu prog 147 [.one (.int .i64 k),.one (.iptr ((eL eI) I) 0)] (.one (.bool r)):=by
 have F:=trivial;have R:=trivial
 refine pA func147 ?_;simp only[f147];unfold zml at h;refine bx h F fun aa h U F=>?_;cases h;exact fin
theorem zzj {I:xtm->xtn->Option Int} {p:xtm} {e:xtn} {r:Int}
  (aa:∀(x0:xtm) (x1:xtn) (r:Int),I x0 x1=some r->Pu prog 100 [.agg (xtr x0),.agg (xto x1)] (.one (.int .i64 r))) (h:zmk I p e=some r):
  Pu prog 100 [.agg (xtr p),.agg (xto e)] (.one (.int .i64 r)):=by
 have F:=trivial;have R:=trivial
 refine pA func100 ?_;simp only[f100];unfold zmk at h;refine nd h F fun h F=>?_
 have R:=And.intro (show List.replicate e.Args.length [.int .i64 0]=List.map eI (List.replicate e.Args.length 0) by simp[go_sem]) R
 refine bi h fun ae h au=>?_;refine tr ?_;intros
 refine lX au (fun|(ab,ad),_=>⟨[(2,.one (.ref 0 0 0 0)),(3,.one (.ref 1 0 0 0)),(5,.one (.ref 3 0 0 0)),(20,.one (.sl (e.Args.map xto))),(21,.one (.int .i64 (e.Args.length:Int))),(22,.one (.int .i64 (ad:Int)))],[.cells 0 6 [(eP_ p)],.cells 0 5 [[.int .i64 e.Op,.int .i64 e.N,.int .i64 e.Kind,.str e.Name,.sl (e.Args.map xto)]],.cells 0 1 (ab.map eI),.cells 0 1 [[.msl 2 0 0 ab.length]]]⟩) (fun|ae,_=>⟨[(2,.one (.ref 0 0 0 0)),(3,.one (.ref 1 0 0 0)),(5,.one (.ref 3 0 0 0))],[.cells 0 6 [(eP_ p)],.cells 0 5 [[.int .i64 e.Op,.int .i64 e.N,.int .i64 e.Kind,.str e.Name,.sl (e.Args.map xto)]],.cells 0 1 (ae.map eI),.cells 0 1 [[.msl 2 0 0 ae.length]]]⟩) (fun _=>some 0) ?_ ?_
 intro i5 b5 aw;obtain rfl:=Wab aw;obtain⟨⟩:=b5;dsimp only at h|-;refine tr ?_;intros;refine iS func144 ?_;simp only[f144];refine tt ?_;refine fi h F ?_ ?_<;>intro h _ F;cases h;exact fin;refine fi h F ?_ ?_<;>intro h _ F;refine bi h fun aG h af=>?_;refine tr ?_;intros;refine cS (zl8 af) ?_;refine tr ?_;intros;refine fi h F ?_ ?_<;>intro h _ F;cases h;exact fin;refine by_ h F fun aH h az F=>?_
 refine tr ?_;intros;refine fv h F ?_ ?_<;>intro h _ F;refine tt ?_;refine fi h F ?_ ?_<;>intro h _ F;exact(by omega:False).elim;cases h;exact fin;cases h;exact fin;refine fi h F ?_ ?_<;>intro h _ F;refine bi h fun aI h ai=>?_;refine tr ?_;intros;refine cS (zl8 ai) ?_;refine tr ?_;intros;refine fi h F ?_ ?_<;>intro h _ F;cases h;exact fin;refine by_ h F fun aJ h aA F=>?_;refine tr ?_
 intros;refine fi h F ?_ ?_<;>intro h _ F;refine tr ?_;intros;refine fi h F ?_ ?_<;>intro h _ F;refine bx h F fun aK h aB F=>?_;refine tr ?_;intros;refine fi h F ?_ ?_<;>intro h _ F;cases h;exact fin;cases h;exact fin;cases h;exact fin;cases h;exact fin;refine fi h F ?_ ?_<;>intro h _ F;refine bi h fun aL h aj=>?_;refine tr ?_;intros;refine cS (zp9 aj) ?_;refine fi h F ?_ ?_<;>intro h _ F
 cases h;exact fin;refine by_ h F fun aM h aC F=>?_;refine bi h fun aN h ak=>?_;refine tr ?_;intros;refine cS (zys ak) ?_;refine fi h F ?_ ?_<;>intro h _ F;refine tr ?_;intros;refine fi h F ?_ ?_<;>intro h _ F;refine by_ h F fun aO h aD F=>?_;cases h;exact fin;cases h;exact fin;cases h;exact fin;refine tt ?_;refine fi h F ?_ ?_<;>intro h _ F;refine bi h fun aP h al=>?_;refine tr ?_
 intros;refine cS (zr7 al) ?_;refine tr ?_;intros;refine fi h F ?_ ?_<;>intro h _ F;refine tr ?_;intros;refine fi h F ?_ ?_<;>intro h _ F;refine bx h F fun aQ h aE F=>?_;cases h;exact fin;cases h;exact fin;cases h;exact fin;refine tr ?_;intros;refine fi h F ?_ ?_<;>intro h _ F;refine bi h fun aR h an=>?_;refine tr ?_;intros;refine cS (zn3 (f_f:=147) (f_c:=[.iptr [.sl (ae.map eI)] 0]) clo (fun _ r h=>zzk h) an) ?_
 refine fv h F ?_ ?_<;>intro h _ F;cases h;exact fin;refine bx h F fun aS h aF F=>?_;refine bi h fun aT h ao=>?_;refine tr ?_;intros;refine cD (zqr ao) ?_;cases h;exact fin;cases h;exact fin;intro ax m5 s5 a5 o5 U aq ay;obtain⟨ab,ad⟩:=s5;obtain⟨⟩:=a5;dsimp only[zds]at U|-;refine fl U F ?_ ?_<;>intro U _ F;refine bx U F fun aW U aU F=>?_;refine bi U fun ar U av=>?_;refine tr ?_
 intros;refine cD (aa _ _ _ av) ?_;refine bx U F fun aX U aV F=>?_
 have R:=And.intro (show(List.map eI ab).set ad [.int .i64 ar]=List.map eI (ab.set ad ar) by simp[go_sem,WaL]) R
 cases U;refine tr ?_;intros;refine wn ad F fun F=>?_;exact bk ay aq ();cases U;refine tt ?_;exact xt aq ax ()
theorem zzi (n:Nat):(∀(I:xtm) (U:xtn) (r:Int),(zmj n) I U=some r->Pu prog 100 [.agg (xtr I),.agg (xto U)] (.one (.int .i64 r))):=by
 induction n with
 |zero=>exact fun _ _ r h=>(by cases h)
 |succ n ih=>
  have aa:=ih
  exact fun _ _ r h=>zzj aa h
theorem z08 {p:xtm} {e:xtn} {r:Int} (h:zwo p e=some r):Pu prog 100 [.agg (xtr p),.agg (xto e)] (.one (.int .i64 r)):=(zzi 1000000) _ _ _ h
theorem zp7 {p:xtm} {e:xtn} {r:Int×Bool} (h:zkq p e=some r):
  Pu prog 65 [.agg (xtr p),.agg (xto e)] (.tup [.one (.int .i64 r.1),.one (.bool r.2)]):=by
 have F:=trivial;have R:=trivial
 refine pA func65 ?_;simp only[f65];unfold zkq at h;refine bi h fun U h I=>?_;refine tr ?_;intros;refine cS (z08 I) ?_;cases h;exact fin
theorem zxm {op:Int} {kind:Int} {a:Int} {r:Int} (h:zj6 op kind a=some r):
  Pu prog 66 [.one (.int .i64 op),.one (.int .i64 kind),.one (.int .i64 a)] (.one (.int .i64 r)):=by
 have F:=trivial;have R:=trivial
 refine pA func66 ?_;simp only[f66];unfold zj6 at h;refine bi h fun ab h I=>?_;refine tr ?_;intros;refine cS (zqr I) ?_;refine fi h F ?_ ?_<;>intro h _ F;cases h;exact fin;refine bi h fun ad h U=>?_;refine tr ?_;intros;refine cS (za3 U) ?_;refine fi h F ?_ ?_<;>intro h _ F;refine bi h fun ae h aa=>?_;refine tr ?_;intros;refine cS (za3 aa) ?_;cases h;exact fin;refine tt ?_;refine fi h F ?_ ?_<;>intro h _ F
 refine fi h F ?_ ?_<;>intro h _ F;cases h;exact fin;cases h;exact fin;cases h;exact fin
theorem z0u {op:Int} {a:Int} {b:Int} {r:Int} (h:zmf op a b=some r):
  Pu prog 102 [.one (.int .i64 op),.one (.int .i64 a),.one (.int .i64 b)] (.one (.int .i64 r)):=by
 have F:=trivial;have R:=trivial
 refine pA func102 ?_;simp only[f102];unfold zmf at h;refine fi h F ?_ ?_<;>intro h _ F;refine bi h fun af h I=>?_;refine tr ?_;intros;refine cS (zl0 I) ?_;cases h;exact fin;refine fi h F ?_ ?_<;>intro h _ F;refine bi h fun ai h U=>?_;refine tr ?_;intros;refine cS (zl0 U) ?_;cases h;exact fin;refine tt ?_;refine fi h F ?_ ?_<;>intro h _ F;refine bi h fun aj h aa=>?_;refine tr ?_;intros
 refine cS (zl0 aa) ?_;cases h;exact fin;refine fi h F ?_ ?_<;>intro h _ F;refine bi h fun ak h ab=>?_;refine tr ?_;intros;refine cS (zl0 ab) ?_;cases h;exact fin;refine fi h F ?_ ?_<;>intro h _ F;refine bi h fun al h ad=>?_;refine tr ?_;intros;refine cS (zl0 ad) ?_;cases h;exact fin;refine bi h fun an h ae=>?_;refine tr ?_;intros;refine cS (zl0 ae) ?_;cases h;exact fin
theorem z1f {op:Int} {kind:Int} {a:Int} {b:Int} {r:Int×Int} (h:zk5 op kind a b=some r):
  Pu prog 67 [.one (.int .i64 op),.one (.int .i64 kind),.one (.int .i64 a),.one (.int .i64 b)] (.tup [.one (.int .i64 r.1),.one (.int .i64 r.2)]):=by
 have F:=trivial;have R:=trivial
 refine pA func67 ?_;simp only[f67];unfold zk5 at h;refine fi h F ?_ ?_<;>intro h _ F;cases h;exact fin;refine tt ?_;refine fi h F ?_ ?_<;>intro h _ F;cases h;exact fin;refine bi h fun ax h af=>?_;refine tr ?_;intros;refine cS (zqr af) ?_;refine fi h F ?_ ?_<;>intro h _ F;cases h;exact fin;refine bi h fun ay h ai=>?_;refine tr ?_;intros;refine cS (za3 ai) ?_;refine bi h fun az h aj=>?_
 refine tr ?_;intros;refine cS (za3 aj) ?_;refine fi h F ?_ ?_<;>intro h _ F;refine bi h fun aA h ak=>?_;refine tr ?_;intros;refine cS (za3 ak) ?_;cases h;exact fin;refine tt ?_;refine fi h F ?_ ?_<;>intro h _ F;refine fi h F ?_ ?_<;>intro h _ F;cases h;exact fin;refine nd h F fun h F=>?_;refine tr ?_;intros;refine fi h F ?_ ?_<;>intro h _ F;exact(by omega:False).elim;refine bi h fun aB h al=>?_
 refine tr ?_;intros;refine cS (za3 al) ?_;cases h;exact fin;refine fi h F ?_ ?_<;>intro h _ F;refine fi h F ?_ ?_<;>intro h _ F;cases h;exact fin;refine nd h F fun h F=>?_;refine nd h F fun h F=>?_;refine bi h fun aC h an=>?_;refine tr ?_;intros;refine cS (za3 an) ?_;cases h;exact fin;refine fi h F ?_ ?_<;>intro h _ F;refine bi h fun ao h I=>?_;refine tr ?_;intros;refine cS (za3 I) ?_
 cases h;exact fin;refine fi h F ?_ ?_<;>intro h _ F;refine bi h fun aq h U=>?_;refine tr ?_;intros;refine cS (za3 U) ?_;cases h;exact fin;refine tt ?_;refine fi h F ?_ ?_<;>intro h _ F;refine bi h fun ar h aa=>?_;refine tr ?_;intros;refine cS (za3 aa) ?_;cases h;exact fin;refine fi h F ?_ ?_<;>intro h _ F;refine bi h fun au h ab=>?_;refine tr ?_;intros;refine cS (za3 ab) ?_;cases h;exact fin
 refine fi h F ?_ ?_<;>intro h _ F;refine bi h fun av h ad=>?_;refine tr ?_;intros;refine cS (za3 ad) ?_;cases h;exact fin;refine bi h fun aw h ae=>?_;refine tr ?_;intros;refine cS (z0u ae) ?_;cases h;exact fin
end Go.Lz

end
section
namespace Go.Lz
section
variable {σ ρ:Type} {f:σ->Option (σ⊕ρ)}
theorem z4l (S:Nat->σ) (n:Nat) (step:∀i,i<n->f (S i)=some (.inl (S (i+1)))):∀k,k<=n->loop f (S 0)=loop f (S k)
 |0,_=>rfl
 |k+1,h=>by rw[z4l S n step k (by omega),zkn (step k (by omega))]
theorem zox (S:Nat->σ) (n:Nat) (r:ρ) (step:∀i,i<n->f (S i)=some (.inl (S (i+1)))) (last:f (S n)=some (.inr r)):loop f (S 0)=some r:=by
 rw[z4l S n step n (Wae n),zcs last]
theorem zmp (I:σ->Prop) (R:ρ->Prop) (μ:σ->Nat) (step:∀s,I s->(∃s',f s=some (.inl s')/\I s'/\μ s'<μ s)\/(∃r,f s=some (.inr r)/\R r)) (s:σ) (h:I s):∃r,loop f s=some r/\R r:=by
 induction hm:μ s using Nat.strongRecOn generalizing s with
 |ind m U=>
  subst hm
  rcases step s h with⟨s',e,hi,hl⟩|⟨r,e,hr⟩
  ·obtain⟨r,e2,hr⟩:=U (μ s') hl s' hi rfl
   exact⟨r,by rw[zkn e,e2],hr⟩
  ·exact⟨r,zcs e,hr⟩
theorem ybk {ρ:Type} {f:Nat->Option (Nat⊕ρ)} (n:Nat) (g:Nat->Option ρ) (d:ρ) (step:∀i,i<n->f i=some (match g i with|some r=>.inr r|none=>.inl (i+1))) (last:f n=some (.inr d)):
  loop f 0=some (((List.range n).findSome? g).getD d):=by
 have key:∀k,k<=n->loop f (n-k)=some ((((List.range n).drop (n-k)).findSome? g).getD d):=by
  intro k
  induction k with
  |zero=>
   intro _;rw[WaY,zcs last,Wbx (by simp)];rfl
  |succ k ih=>
   intro hk
   have hd:(List.range n).drop (n-(k+1))=(n-(k+1))::(List.range n).drop (n-k):=by
    rw[Wa3 (by simp;omega)]
    congr 1
    ·simp
    ·congr 1;omega
   rw[hd,Wcc]
   have I:=step (n-(k+1)) (by omega)
   cases U:g (n-(k+1))with
   |some r=>rw[U]at I;rw[zcs I];rfl
   |none=>
    rw[U]at I;rw[zkn I,show n-(k+1)+1=n-k by omega,ih (by omega)]
 have:=key n (Wae n)
 simpa using this
end
theorem zk8 {ρ:Type} {f:Nat->Option (Nat⊕ρ)} (n:Nat) (p:Nat->Bool) (v:Nat->ρ) (d:ρ) (step:∀i,i<n->f i=some (if p i then .inr (v i)else .inl (i+1))) (last:f n=some (.inr d)):
  loop f 0=some (((List.range n).find? p).elim d v):=by
 rw[ybk n (fun i=>if p i then some (v i)else none) d (fun i hi=>by rw[step i hi];cases p i<;>rfl) last]
 congr 1
 induction List.range n with
 |nil=>rfl
 |cons x xs I=>
  rw[Wcc,WbQ]
  cases p x with
  |true=>rfl
  |false=>simpa using I
theorem yfi {ρ:Type} {p q:Nat->Bool} {a b:ρ} (h:∀x,q x= !p x) (xs:List Nat):(xs.find? p).elim a (fun _=>b)=if xs.all q then a else b:=by
 induction xs with
 |nil=>rfl
 |cons x xs I=>
  rw[WbQ,Wbi,h x]
  cases p x with
  |true=>rfl
  |false=>simpa using I
theorem zuv {f:Bool×Nat->Option ((Bool×Nat)⊕Bool)} (n:Nat) (p:Nat->Bool) (h1:∀d,d<n->f (true,d)=some (.inl (p d,d+1))) (h2:∀d,d<n->f (false,d)=some (.inr false)) (h3:∀b,f (b,n)=some (.inr b)) (ok:Bool):
  loop f (ok,0)=some (ok&&(List.range n).all p):=by
 have key:∀k,k<=n->∀b,loop f (b,n-k)=some (b&&((List.range n).drop (n-k)).all p):=by
  intro k
  induction k with
  |zero=>intro _ b;rw[WaY,zcs (h3 b),Wbx (by simp)];simp
  |succ k I=>
   intro hk b
   have U:(List.range n).drop (n-(k+1))=(n-(k+1))::(List.range n).drop (n-k):=by
    rw[Wa3 (by simp;omega)]
    congr 1
    ·simp
    ·congr 1;omega
   cases b with
   |false=>rw[zcs (h2 _ (by omega))];simp
   |true=>
    rw[zkn (h1 _ (by omega)),show n-(k+1)+1=n-k by omega,I (by omega),U,Wbi];simp
 have:=key n (Wae n) ok
 simpa using this
theorem zxz:∀{xs:List Bool} {i:Nat},xs[i]? =some false->(xs.set i true).count false+1=xs.count false
 |[],i,h=>by simp at h
 |x::xs,0,h=>by simp at h;subst h;simp
 |x::xs,i+1,h=>by
  simp at h
  have:=zxz (xs:=xs) (i:=i) (by simpa using h)
  simp only[List.set_cons_succ,List.count_cons];omega
end Go.Lz

end
section


end
section


end
section


end
section


end
section
namespace Go.Lz
theorem z49 {α:Type} {xs:List α} {i:Nat} (h:i<xs.length):xs.drop i=xs[i]::xs.drop (i+1):=Wa3 h
theorem ybj {α ρ:Type} {xs:List α} {g:α->Option ρ} {d:ρ} {f:Nat->Option (Nat⊕ρ)} (step:∀i (h:i<xs.length),f i=some (match g xs[i]with|some r=>.inr r|none=>.inl (i+1))) (last:f xs.length=some (.inr d)):
  loop f 0=some ((xs.findSome? g).getD d):=by
 have key:∀k i,xs.length-i=k->i<=xs.length->loop f i=some (((xs.drop i).findSome? g).getD d):=by
  intro k
  induction k with
  |zero=>
   intro i hk hi
   have:i=xs.length:=by omega
   subst this;rw[zcs last,List.drop_length];rfl
  |succ k ih=>
   intro i hk hi
   have U:i<xs.length:=by omega
   have I:=step i U
   rw[z49 U,Wcc]
   cases hg:g xs[i]with
   |some r=>rw[hg]at I;rw[zcs I];rfl
   |none=>rw[hg]at I;rw[zkn I,ih (i+1) (by omega) (by omega)]
 exact key _ 0 rfl (Waf _)
theorem zsb {α ρ:Type} {xs:List α} {p:α->Bool} {a b:ρ} {f:Nat->Option (Nat⊕ρ)} (step:∀i (h:i<xs.length),f i=some (if p xs[i]then .inl (i+1)else .inr a)) (last:f xs.length=some (.inr b)):
  loop f 0=some (if xs.all p then b else a):=by
 rw[ybj (g:=fun x=>if p x then none else some a) (d:=b) (fun i h=>by rw[step i h];cases p xs[i]<;>rfl) last]
 congr 1
 clear step last
 induction xs with
 |nil=>rfl
 |cons x xs I=>
  rw[Wcc,Wbi]
  cases p x with
  |true=>simpa using I
  |false=>rfl
end Go.Lz

end
section
namespace Go.Lz
def Tot {α:Type} (x:Option α) (Q:α->Prop):Prop:=∃r,x=some r/\Q r
section
variable {α β:Type} {x:Option α} {Q:α->Prop} {f:α->Option β} {R:β->Prop}
theorem Tot.bind (h:Tot x Q) (k:∀a,Q a->Tot (f a) R):Tot (x.bind f) R:=by
 obtain⟨a,rfl,hq⟩:=h;exact k a hq
theorem Tot.need {p:Prop} [Decidable p] (h:p) (k:Tot x Q):Tot (need p x) Q:=by rw[zc9 h];exact k
theorem Tot.ite {c:Prop} [Decidable c] {y:Option α} (a:c->Tot x Q) (b:¬c->Tot y Q):Tot (if c then x else y) Q:=by
 by_cases h:c
 ·rw[if_pos h];exact a h
 ·rw[if_neg h];exact b h
theorem Tot.mk {a:α} (h:Q a):Tot (some a) Q:=⟨a,rfl,h⟩
theorem Tot.imp {I:α->Prop} (h:Tot x Q) (k:∀a,Q a->I a):Tot x I:=by
 obtain⟨a,rfl,hq⟩:=h;exact⟨a,rfl,k a hq⟩
theorem Tot.get {xs:List α} {i:Nat} (h:i<xs.length):Tot xs[i]? (fun a=>a∈xs/\a=xs[i]):=⟨xs[i],Wac h,Wap h,rfl⟩
theorem Tot.idx {xs:List α} {i:Int} (h0:0<=i) (h:i<xs.length):Tot (idx xs i) (fun a=>a∈xs):=by
 have:i.toNat<xs.length:=by omega
 exact⟨xs[i.toNat],by unfold Lz.idx;rw[if_pos h0];exact Wac this,Wap this⟩
end
section
variable {σ ρ:Type} {f:σ->Option (σ⊕ρ)}
def Rd (I:σ->Prop) (R:ρ->Prop) (μ:σ->Nat) (m:Nat):σ⊕ρ->Prop
 |.inl s=>I s/\μ s<m
 |.inr r=>R r
theorem Tot.loop (I:σ->Prop) {R:ρ->Prop} (μ:σ->Nat) {s:σ} (h:I s) (step:∀s,I s->Tot (f s) (Rd I R μ (μ s))):Tot (loop f s) R:=by
 refine zmp I R μ (fun s hs=>?_) s h;obtain⟨o,U,hq⟩:=step s hs
 cases o with
 |inl s'=>exact .inl ⟨s',U,hq⟩
 |inr r=>exact .inr ⟨r,U,hq⟩
end
theorem zhd {n:Int} (h1:-9223372036854775808<=n) (h2:n<=9223372036854775807):w64 n=n:=by rw[zn1];omega
end Go.Lz

end
section
namespace Go.Lz
theorem z70 (c:Int):Tot (zdz c) fun _=>True:=by
 unfold zdz
 repeat' (first|exact Tot.mk trivial|refine Tot.ite (fun _=>?_) (fun _=>?_))
theorem yj6 (c:Int):Tot (zgj c) fun _=>True:=by
 unfold zgj
 repeat' (first|exact Tot.mk trivial|refine Tot.ite (fun _=>?_) (fun _=>?_))
theorem yqs (s:Str):Tot (ziy s) fun _=>True:=by
 unfold ziy;refine Tot.ite (fun _=>Tot.mk trivial) fun U=>?_
 have hl:0<s.length:=by cases s with|nil=>exact(U rfl).elim|cons a b=>simp
 refine(Tot.get hl).bind fun c _=>(z70 _).bind fun b _=>Tot.ite (fun _=>?_) (fun _=>Tot.mk trivial);refine Tot.bind (Tot.loop (fun i=>i<=s.length) (R:=fun _=>True) (fun i=>s.length-i) (by omega) fun i hi=>?_) fun _ _=>Tot.mk trivial;unfold zk2;refine Tot.ite (fun h=>?_) fun _=>Tot.mk trivial
 have I:i<s.length:=by omega
 refine(Tot.get I).bind fun c _=>(z70 _).bind fun b _=>Tot.ite (fun _=>Tot.mk ⟨I,by simp only;omega⟩) fun _=>(yj6 _).bind fun b _=>Tot.ite (fun _=>Tot.mk ⟨I,by simp only;omega⟩) fun _=>Tot.mk trivial
theorem ydi (s names:Str) (hn:names.length<=1000000):Tot (zej s names) fun b=>b=true->s.length<=names.length:=by
 unfold zej
 refine Tot.bind (Tot.loop (fun x=>0<=x.1/\x.1<=(x.2:Int)/\x.2<=names.length+1) (R:=fun r=>match r with|.inl b=>b=true->s.length<=names.length|.inr ()=>True) (fun x=>names.length+1-x.2) ⟨by simp,by simp,by simp⟩ fun⟨k,i⟩ ⟨h0,h1,h2⟩=>?_) fun r hr=>by
  cases r with
  |inl r=>exact Tot.mk hr
  |inr r=>exact Tot.mk (by simp)
 simp only at h0 h1 h2;unfold zjz;refine Tot.ite (fun h=>?_) fun _=>Tot.mk trivial
 have e:w64 ((i:Int)+1)=(i:Int)+1:=zhd (by omega) (by omega)
 have go:Tot (some (Sum.inl (w64 ((i:Int)+1),i+1)):Option ((Int×Nat)⊕(Bool⊕Unit))) (Rd (fun x=>0<=x.1/\x.1<=(x.2:Int)/\x.2<=names.length+1) (fun r=>match r with|.inl b=>b=true->s.length<=names.length|.inr ()=>True) (fun x=>names.length+1-x.2) (names.length+1-i)):=
  Tot.mk ⟨⟨by rw[e];simp only;omega,by rw[e];simp only;omega,by simp only;omega⟩,by simp only;omega⟩
 have st:Tot (if k<(i:Int)then need (0<=k/\k<=(i:Int)/\(i:Int)<=names.length) (if((names.take i).drop k.toNat)=s then(some (Sum.inr (Sum.inl (true))))else(some (Sum.inl ((w64 ((i:Int)+1)),(i+1)))))else(some (Sum.inl ((w64 ((i:Int)+1)),(i+1)))):Option ((Int×Nat)⊕(Bool⊕Unit))) (Rd (fun x=>0<=x.1/\x.1<=(x.2:Int)/\x.2<=names.length+1) (fun r=>match r with|.inl b=>b=true->s.length<=names.length|.inr ()=>True) (fun x=>names.length+1-x.2) (names.length+1-i)):=
  Tot.ite (fun _=>Tot.need ⟨h0,h1,h⟩ (Tot.ite (fun I=>Tot.mk fun _=>by rw[<-I];simp only[WaM,WaA];omega) fun _=>go)) fun _=>go
 refine Tot.ite (fun _=>st) fun U=>?_;refine(Tot.get (by omega)).bind fun c _=>Tot.ite (fun _=>st) fun _=>Tot.mk ⟨⟨h0,by simp only;omega,by simp only;omega⟩,by simp only;omega⟩
set_option maxRecDepth 20000 in
theorem ykv (s:Str):Tot (zhw s) fun _=>True:=by
 unfold zhw;exact(ydi s _ (Nat.le_of_ble_eq_true rfl)).bind fun _ _=>Tot.mk trivial
theorem yhg (s:Str):Tot (zgi s) fun _=>True:=by
 unfold zgi;refine Tot.bind (Tot.loop (fun x=>x.2<=x.1.length) (R:=fun _=>True) (fun x=>x.1.length-x.2) (Waf _) fun⟨b,i⟩ h=>?_) fun _ _=>Tot.mk trivial;simp only at h;unfold zjy;refine Tot.ite (fun U=>?_) fun _=>Tot.mk trivial
 have I:i<b.length:=by omega
 exact(Tot.get I).bind fun x _=>Tot.ite (fun _=>Tot.ite (fun _=>Tot.mk ⟨by simp only[Wa7];omega,by simp only[Wa7];omega⟩) fun _=>Tot.mk ⟨I,by simp only;omega⟩) fun _=>Tot.mk ⟨I,by simp only;omega⟩
theorem zus (s:Str):Tot (zaw s) fun b=>b=true->s.length<=32/\s≠[]:=by
 unfold zaw
 refine Tot.ite (fun _=>Tot.mk fun h=>by cases h) fun h1=>Tot.ite (fun h2=>?_) fun _=>Tot.mk fun h=>by cases h
 exact(yqs s).bind fun _ _=>Tot.ite (fun _=>(yhg s).bind fun _ _=>(ykv _).bind fun _ _=>Tot.mk fun _=>⟨by omega,h1⟩) fun _=>Tot.mk fun h=>by cases h
theorem zo1 (n:Int) (h0:0<=n) (h1:n<10000000000):Tot (zax n) fun r=>r.length<=11:=by
 unfold zax
 have one:∀(m:Nat),m<10->((([48,49,50,51,52,53,54,55,56,57]:Str).take (m+1)).drop m).length=1:=by decide
 refine Tot.bind (Tot.loop (fun x=>0<=x.1/\x.1.toNat*10^x.2.length<10000000000/\x.2.length<=10) (R:=fun x=>0<=x.1/\x.1<10/\x.2.length<=10) (fun x=>x.1.toNat) ⟨h0,by simp;omega,by simp⟩ fun⟨n,s⟩ ⟨a0,a1,a2⟩=>?_) fun⟨n,s⟩ ⟨a0,a1,a2⟩=>?_
 ·simp only at a0 a1 a2
  unfold zi7;refine Tot.ite (fun h=>?_) fun h=>Tot.mk ?_
  ·obtain⟨m,rfl⟩:∃m:Nat,n=m:=⟨n.toNat,by omega⟩
   have hs:s.length<10:=by
    have:10*10^s.length<=m*10^s.length:=WaH _ (by omega)
    have:10^s.length<10^10:=by simp only[Int.toNat_natCast]at a1;omega
    exact(Nat.pow_lt_pow_iff_right (by decide)).1 this
   have hm:m<10000000000:=by
    have:1<=10^s.length:=Nat.one_le_pow _ _ (by decide)
    have:m*1<=m*10^s.length:=Nat.mul_le_mul_left _ this
    simp only[Int.toNat_natCast]at a1;omega
   have U:(m:Int).tmod 10=((m%10:Nat):Int):=by rw[Int.tmod_eq_emod_of_nonneg (by omega)];omega
   have ed:(m:Int).tdiv 10=((m/10:Nat):Int):=by rw[Int.tdiv_eq_ediv_of_nonneg (by omega)];omega
   have I:w64 (((m%10:Nat):Int)+1)=((m%10+1:Nat):Int):=by rw[zhd (by omega) (by omega)];omega
   have e2:w64 ((m/10:Nat):Int)=((m/10:Nat):Int):=zhd (by omega) (by omega)
   rw[U,ed,I,e2];refine Tot.need ⟨by omega,by omega,by omega⟩ (Tot.need ?_ (Tot.mk ⟨⟨?_,?_,?_⟩,?_⟩))
   ·rw[Int.toNat_natCast,Int.toNat_natCast,one _ (by omega)];omega
   ·simp only;omega
   ·simp only[Int.toNat_natCast,Wai]
    rw[one _ (by omega),WbL 1,Nat.pow_succ];simp only[Int.toNat_natCast]at a1
    have:m/10*(10^s.length*10)<=m*10^s.length:=by
     rw[Wbz (10^s.length) 10,<-Nat.mul_assoc];exact WaH _ (Nat.div_mul_le_self m 10)
    omega
   ·simp only[Int.toNat_natCast,Wai]
    rw[one _ (by omega)];omega
   ·simp only[Int.toNat_natCast];omega
  ·exact⟨a0,by simp only;omega,a2⟩
 ·simp only at a0 a1 a2|-
  obtain⟨m,rfl⟩:∃m:Nat,n=m:=⟨n.toNat,by omega⟩
  have I:w64 ((m:Int)+1)=((m+1:Nat):Int):=by rw[zhd (by omega) (by omega)];omega
  rw[I];refine Tot.need ⟨by omega,by omega,by omega⟩ (Tot.need ?_ (Tot.mk ?_))
  ·rw[Int.toNat_natCast,Int.toNat_natCast,one _ (by omega)];omega
  ·rw[Wai,Int.toNat_natCast,Int.toNat_natCast,one _ (by omega)];omega
end Go.Lz

end
section
namespace Go.Lz
mutual
def depE:xtn->Nat
 |⟨_,_,_,_,args⟩=>zol args+1
def zol:List xtn->Nat
 |[]=>0
 |e::es=>max (depE e) (zol es)
end
mutual
def depS:xtp->Nat
 |⟨_,_,target,value,args,body,I⟩=>max (max (depE target) (depE value)) (max (zol args) (max (zgr body) (zgr I)))+1
def zgr:List xtp->Nat
 |[]=>0
 |e::es=>max (depS e) (zgr es)
end
theorem zd5 (e:xtn):depE e=zol e.Args+1:=by cases e;rw[depE]
theorem zvk (s:xtp):depS s=max (max (depE s.Target) (depE s.Value)) (max (zol s.Args) (max (zgr s.Body) (zgr s.Else)))+1:=by cases s;rw[depS]
theorem z5a:∀{l m:List xtn},zol (l++m)=max (zol l) (zol m)
 |[],m=>by simp[zol]
 |e::es,m=>by rw[Wbh,zol,zol,z5a (l:=es)];omega
theorem zgs:∀{l:List xtn} {x:xtn},x∈l->depE x<=zol l
 |e::es,x,I=>by
  rw[zol]
  rcases WaB.1 I with rfl|I
  ·omega
  ·have:=zgs I;omega
theorem zod:∀{l:List xtp} {x:xtp},x∈l->depS x<=zgr l
 |e::es,x,I=>by
  rw[zgr]
  rcases WaB.1 I with rfl|I
  ·omega
  ·have:=zod I;omega
mutual
def szE:xtn->Nat
 |⟨_,_,_,_,args⟩=>szEs args+1
def szEs:List xtn->Nat
 |[]=>0
 |e::es=>szE e+szEs es
end
theorem zum (e:xtn):szE e=szEs e.Args+1:=by cases e;rw[szE]
theorem z7c:∀{l m:List xtn},szEs (l++m)=szEs l+szEs m
 |[],m=>by simp[szEs]
 |e::es,m=>by rw[Wbh,szEs,szEs,z7c (l:=es)];omega
theorem zpz:∀{l:List xtn} {x:xtn},x∈l->szE x<=szEs l
 |e::es,x,I=>by
  rw[szEs]
  rcases WaB.1 I with rfl|I
  ·omega
  ·have:=zpz I;omega
end Go.Lz

end
section
namespace Go.Lz
mutual
def fmE:xtn->Prop
 |⟨op,N,K,name,args⟩=>zcz ⟨op,N,K,name,args⟩=some true/\fmEs args
def fmEs:List xtn->Prop
 |[]=>True
 |e::es=>fmE e/\fmEs es
end
theorem zzc (e:xtn):fmE e=(zcz e=some true/\fmEs e.Args):=by cases e;rw[fmE]
theorem z8d:∀{l m:List xtn},fmEs (l++m)↔fmEs l/\fmEs m
 |[],m=>by simp[fmEs]
 |e::es,m=>by rw[Wbh,fmEs,fmEs,z8d (l:=es),and_assoc]
theorem zlu:∀{l:List xtn},fmEs l->∀x∈l,fmE x
 |[],_,x,I=>by cases I
 |e::es,h,x,I=>by
  rw[fmEs]at h
  rcases WaB.1 I with rfl|I
  ·exact h.1
  ·exact zlu h.2 x I
structure yks (e:xtn):Prop where
 name:e.Name.length<=32
 n0:0<=e.N
 n1:e.N<=2147483647
 ops:(e.Op=1/\e.Args.length=0/\(e.Kind=1\/e.Kind=2\/e.Kind=3\/e.Kind=4))\/(e.Op=2/\e.Args.length=0)\/(e.Op=4/\e.Args.length=0)\/(e.Op=3/\e.Args.length=1)\/(e.Op=21/\e.Args.length=1)\/(e.Op=5/\e.Args.length=1)\/(e.Op=6/\e.Args.length=1)\/(7<=e.Op/\e.Op<=20/\e.Args.length=2)
theorem ygj (e:xtn):Tot (zcz e) fun b=>b=true->yks e:=by
 have no:∀{Q:Prop},Tot (some false) fun b=>b=true->Q:=Tot.mk fun h=>by cases h
 have I:e.Name=[]->e.Name.length<=32:=fun h=>by rw[h];exact Waf _
 unfold zcz;refine Tot.ite (fun o1=>?_) fun o1=>?_
 ·refine Tot.ite (fun n0=>?_) fun _=>no
  have fin:∀{m:Int},m<=2147483647->(e.Kind=1\/e.Kind=2\/e.Kind=3\/e.Kind=4)->Tot (if e.N<=m then(if(e.Args.length:Int)=0 then(some (decide (e.Name=[])))else(some false))else(some false)) fun b=>b=true->yks e:=fun hm hk=>
   Tot.ite (fun n1=>Tot.ite (fun a0=>Tot.mk fun h=>⟨I (of_decide_eq_true h),n0,by omega,.inl ⟨o1,by omega,hk⟩⟩) fun _=>no) fun _=>no
  refine Tot.ite (fun k=>Tot.ite (fun n1=>Tot.ite (fun a0=>Tot.mk fun h=>⟨I (of_decide_eq_true h),n0,by omega,.inl ⟨o1,by omega,.inl k⟩⟩) fun _=>no) fun _=>Tot.ite (fun U=>by omega) fun _=>Tot.ite (fun U=>by omega) fun _=>Tot.ite (fun U=>by omega) fun _=>no) fun k1=>?_;refine Tot.ite (fun k=>Tot.ite (fun n1=>Tot.ite (fun a0=>Tot.mk fun h=>⟨I (of_decide_eq_true h),n0,by omega,.inl ⟨o1,by omega,.inr (.inl k)⟩⟩) fun _=>no) fun _=>Tot.ite (fun U=>by omega) fun _=>Tot.ite (fun U=>by omega) fun _=>no) fun U=>?_
  exact Tot.ite (fun k=>fin (by decide) (.inr (.inr (.inl k)))) fun k3=>Tot.ite (fun k=>fin (by decide) (.inr (.inr (.inr k)))) fun _=>no
 ·refine Tot.ite (fun k0=>?_) fun _=>no
  refine Tot.ite (fun o=>Tot.ite (fun a=>Tot.ite (fun n=>(zus _).bind fun b hb=>Tot.mk fun h=>⟨(hb h).1,by omega,by omega,.inr (.inl ⟨o,by omega⟩)⟩) fun _=>no) fun _=>no) fun o2=>?_;refine Tot.ite (fun o=>Tot.ite (fun a=>Tot.ite (fun n=>Tot.ite (fun n'=>(zus _).bind fun b hb=>Tot.mk fun h=>⟨(hb h).1,by omega,by omega,.inr (.inr (.inl ⟨o,by omega⟩))⟩) fun _=>no) fun _=>no) fun _=>no) fun o4=>?_
  refine Tot.ite (fun o=>Tot.ite (fun a=>Tot.ite (fun n=>(zus _).bind fun b hb=>Tot.mk fun h=>⟨(hb h).1,by omega,by omega,.inr (.inr (.inr (.inl ⟨o,by omega⟩)))⟩) fun _=>no) fun _=>no) fun o3=>?_;refine Tot.ite (fun o=>Tot.ite (fun a=>Tot.ite (fun n=>(zus _).bind fun b hb=>Tot.mk fun h=>⟨(hb h).1,by omega,by omega,.inr (.inr (.inr (.inr (.inl ⟨o,by omega⟩))))⟩) fun _=>no) fun _=>no) fun aa=>?_
  refine Tot.ite (fun o=>Tot.ite (fun a=>Tot.ite (fun n=>Tot.mk fun h=>⟨I (of_decide_eq_true h),by omega,by omega,.inr (.inr (.inr (.inr (.inr (.inl ⟨o,by omega⟩)))))⟩) fun _=>no) fun _=>no) fun o5=>?_;refine Tot.ite (fun o=>Tot.ite (fun a=>Tot.ite (fun n=>Tot.mk fun h=>⟨I (of_decide_eq_true h),by omega,by omega,.inr (.inr (.inr (.inr (.inr (.inr (.inl ⟨o,by omega⟩))))))⟩) fun _=>no) fun _=>no) fun o6=>?_
  exact Tot.ite (fun o=>Tot.ite (fun o'=>Tot.ite (fun a=>Tot.ite (fun n=>Tot.mk fun h=>⟨I (of_decide_eq_true h),by omega,by omega,.inr (.inr (.inr (.inr (.inr (.inr (.inr ⟨o,o',by omega⟩))))))⟩) fun _=>no) fun _=>no) fun _=>no) fun _=>no
theorem zxp {e:xtn} (h:fmE e):yks e:=by
 rw[zzc]at h;obtain⟨b,hb,hq⟩:=ygj e;rw[h.1]at hb;cases hb;exact hq rfl
theorem zot {α:Type} {l:List α} {i:Nat} (h:i<l.length):l.take (i+1)=l.take i++[l[i]]:=by rw[List.take_add_one];simp[h]
theorem yc7:∀(d fuel:Nat),d<fuel->d<=1000->∀(e:xtn) (left:Int),left<=1000000->Tot (zdm fuel e (d:Int) left) fun r=>r<=left/\-1<=r/\(0<=r->fmE e/\depE e<=d/\(szE e:Int)+r<=left)\/left<0/\r=-1
 |d,0,h,_,_,_,_=>by omega
 |0,fuel+1,_,_,e,left,_=>by
  unfold zdm zey
  exact Tot.ite (fun _=>Tot.mk (by omega)) fun h=>by omega
 |d+1,fuel+1,h,hd,e,left,hl=>by
  have e1:w64 (((d+1:Nat):Int)-1)=(d:Int):=by rw[zhd (by omega) (by omega)];omega
  unfold zdm zey;refine Tot.ite (fun h=>by omega) fun _=>Tot.ite (fun h=>Tot.mk (.inr ⟨h,rfl⟩)) fun ad=>?_;obtain⟨b,hb,_⟩:=ygj e;rw[hb,Waa];refine Tot.ite (fun ab=>?_) fun _=>Tot.mk (.inl ⟨by omega,by omega,by omega⟩);subst ab;rw[zhd (n:=left-1) (by omega) (by omega)]
  refine Tot.bind (Tot.loop (fun x=>x.2<=e.Args.length/\x.1<=left-1/\-1<=x.1/\(0<=x.1->fmEs (e.Args.take x.2)/\zol (e.Args.take x.2)<=d/\(szEs (e.Args.take x.2):Int)+x.1<=left-1))
   (R:=fun r=>r<=left/\-1<=r/\(0<=r->fmE e/\depE e<=d+1/\(szE e:Int)+r<=left)) (fun x=>e.Args.length-x.2) ⟨by simp,by simp,by simp only;omega,fun _=>by simp[fmEs,zol,szEs]⟩ fun⟨l,i⟩ ⟨a0,a1,a2,a3⟩=>?_) fun r hr=>Tot.mk (.inl hr)
  simp only at a0 a1 a2 a3;unfold zjx;refine Tot.ite (fun hi=>?_) fun hi=>Tot.mk ⟨by omega,a2,fun h0=>?_⟩
  ·refine Tot.ite (fun h0=>?_) fun h0=>Tot.mk ⟨by omega,a2,by omega⟩
   have I:i<e.Args.length:=by omega
   refine(Tot.get I).bind fun x hx=>?_;rw[e1,hx.2];refine(yc7 d fuel (by omega) (by omega) _ l (by omega)).bind fun r hr=>Tot.mk ⟨⟨I,?_,?_,fun aa=>?_⟩,by simp only;omega⟩
   ·simp only;omega
   ·simp only;omega
   ·simp only at aa|-
    obtain⟨U,b1,b2⟩:=a3 h0
    rcases hr with⟨_,_,hr⟩|⟨hr,_⟩
    ·obtain⟨c0,c1,c2⟩:=hr aa
     rw[zot I,z8d,z5a,z7c];simp only[fmEs,zol,szEs];exact⟨⟨U,c0,trivial⟩,by omega,by omega⟩
    ·omega
  ·have:i=e.Args.length:=by omega
   subst this;obtain⟨U,b1,b2⟩:=a3 h0;rw[Wbs]at U b1 b2;rw[zzc,zd5,zum];exact⟨⟨hb,U⟩,by omega,by omega⟩
theorem yft (e:xtn):Tot (zll e 24 16384) fun r=>0<=r->fmE e/\depE e<=24/\szE e<=16384:=
 (yc7 24 1000000 (by omega) (by omega) e 16384 (by omega)).imp fun r hr h0=>by
   rcases hr with⟨_,_,h⟩|⟨h,_⟩
   ·obtain⟨a,b,c⟩:=h h0;exact⟨a,b,by omega⟩
   ·omega
theorem z55 (op:Int):Tot (zdd op) fun _=>True:=by
 unfold zdd
 repeat' (first|exact Tot.mk trivial|refine Tot.ite (fun _=>?_) (fun _=>?_))
theorem yhs (l:Int):Tot (zgh l) fun r=>r.1.length<=14:=by
 unfold zgh
 repeat' (first|exact Tot.mk (by decide)|refine Tot.ite (fun _=>?_) (fun _=>?_))
theorem ylj (op:Int):Tot (zhv op) fun r=>r.length<=14:=by
 unfold zhv;refine(z55 op).bind fun l _=>(yhs l).bind fun x U=>?_
 obtain⟨names,first⟩:=x
 simp only at U
 refine Tot.bind (Tot.loop (fun x=>0<=x.2.1/\x.2.1<=(x.2.2:Int)/\x.2.2<=names.length+1) (R:=fun r=>match r with|.inl r=>r.length<=14|.inr ()=>True) (fun x=>names.length+1-x.2.2) ⟨by simp,by simp,by simp⟩ fun⟨k,fr,i⟩ ⟨h0,h1,h2⟩=>?_) fun r hr=>by
  cases r with
  |inl r=>exact Tot.mk hr
  |inr r=>exact Tot.mk (by simp)
 simp only at h0 h1 h2;unfold zkk;refine Tot.ite (fun h=>?_) fun _=>Tot.mk trivial;simp only at h
 have e:w64 ((i:Int)+1)=(i:Int)+1:=zhd (by omega) (by omega)
 have dl:((names.take i).drop fr.toNat).length<=14:=by simp only[WaM,WaA];omega
 refine Tot.ite (fun _=>Tot.ite (fun _=>Tot.need ⟨h0,h1,h⟩ (Tot.mk dl)) fun _=>Tot.mk ⟨⟨by rw[e];simp only;omega,by rw[e];simp only;omega,by simp only;omega⟩,by simp only;omega⟩) fun I=>?_;simp only at I;exact(Tot.get (by simp only;omega)).bind fun c _=>Tot.ite (fun _=>Tot.ite (fun _=>Tot.need ⟨h0,h1,h⟩ (Tot.mk dl)) fun _=>Tot.mk ⟨⟨by rw[e];simp only;omega,by rw[e];simp only;omega,by simp only;omega⟩,by simp only;omega⟩) fun _=>Tot.mk ⟨⟨h0,by simp only;omega,by simp only;omega⟩,by simp only;omega⟩
theorem zz1 {l:List xtn} {i:Nat} (h:i<l.length):Tot l[i]? fun x=>x∈l/\depE x<=zol l/\szE x<=szEs l:=
 (Tot.get h).imp fun x I=>⟨I.1,zgs I.1,zpz I.1⟩
theorem z2b {l:List xtn} (h:l.length=2):∃a b,l=[a,b]:=by
 match l,h with
 |[a,b],_=>exact⟨a,b,rfl⟩
theorem yfz:∀(n:Nat),(∀e,fmE e->2*depE e<=n->szE e<=1000000->Tot ((za2 n).1 e) fun r=>r.length<=64*szE e)/\(∀e least,fmE e->2*depE e+1<=n->szE e<=1000000->Tot ((za2 n).2 e least) fun r=>r.length<=64*szE e+2)
 |0=>⟨fun e _ h _=>by rw[zd5]at h;omega,fun e _ _ h _=>by omega⟩
 |n+1=>by
  obtain⟨ih1,ih2⟩:=yfz n;constructor
  ·intro e ok hd I
   have F:=zxp ok
   rw[zzc]at ok;rw[zd5]at hd;rw[zum]at I|-
   have hn:=F.name
   have aa:=F.n0
   have af:=F.n1
   show Tot (zfo (za2 n).1 (za2 n).2 e) _
   unfold zfo;refine Tot.ite (fun o1=>?_) fun o1=>?_
   ·refine Tot.ite (fun _=>Tot.ite (fun _=>Tot.mk (by simp only[Waj,Wam];omega)) fun _=>Tot.mk (by simp only[Waj,Wam];omega)) fun _=>?_
    refine Tot.ite (fun _=>(zo1 _ aa (by omega)).bind fun r hr=>Tot.need (by omega) (Tot.need (by omega) (Tot.mk (by simp only[Wai,Waj,Wam];omega)))) fun _=>?_;refine Tot.ite (fun _=>(zo1 _ aa (by omega)).bind fun r hr=>Tot.need (by omega) (Tot.need (by omega) (Tot.mk (by simp only[Wai,Waj,Wam];omega)))) fun _=>?_;exact(zo1 _ aa (by omega)).bind fun r hr=>Tot.mk (by omega)
   refine Tot.ite (fun _=>Tot.mk (by omega)) fun o2=>?_;refine Tot.ite (fun _=>Tot.need (by omega) ((zo1 _ aa (by omega)).bind fun r hr=>Tot.need (by omega) (Tot.mk (by simp only[Wai,Waj,Wam];omega)))) fun o4=>?_;refine Tot.ite (fun o=>?_) fun o3=>?_
   ·have hl:0<e.Args.length:=by have:=F.ops;omega
    refine Tot.need (by omega) ((zz1 hl).bind fun x U=>(ih1 x (zlu ok.2 x U.1) (by omega) (by omega)).bind fun r hr=>Tot.need (by omega) (Tot.need (by omega) (Tot.mk (by simp only[Wai,Waj,Wam];omega))))
   refine Tot.ite (fun o=>?_) fun ai=>?_
   ·have hl:0<e.Args.length:=by have:=F.ops;omega
    refine Tot.need (by omega) (Tot.need (by omega) ((zz1 hl).bind fun x U=>(ih1 x (zlu ok.2 x U.1) (by omega) (by omega)).bind fun r hr=>Tot.need (by omega) (Tot.need (by omega) (Tot.mk (by simp only[Wai,Waj,Wam];omega)))))
   refine Tot.ite (fun o=>?_) fun o5=>?_
   ·have hl:0<e.Args.length:=by have:=F.ops;omega
    exact(zz1 hl).bind fun x U=>(ih2 x 7 (zlu ok.2 x U.1) (by omega) (by omega)).bind fun r hr=>Tot.need (by omega) (Tot.mk (by simp only[Wai,Waj,Wam];omega))
   refine Tot.ite (fun o=>?_) fun o6=>?_
   ·have hl:0<e.Args.length:=by have:=F.ops;omega
    exact(zz1 hl).bind fun x U=>(ih2 x 7 (zlu ok.2 x U.1) (by omega) (by omega)).bind fun r hr=>Tot.need (by omega) (Tot.mk (by simp only[Wai,Waj,Wam];omega))
   have hl:e.Args.length=2:=by have:=F.ops;omega
   obtain⟨a,b,ab⟩:=z2b hl;rw[ab]at ok hd I|-;simp only[fmEs,zol,szEs]at ok hd I;obtain⟨_,ad,ae,_⟩:=ok;simp only[Wat,WaK,Waa,szEs];exact(z55 _).bind fun k _=>(ih2 a k ad (by omega) (by omega)).bind fun r hr=>Tot.need (by omega) ((ylj _).bind fun s I=>Tot.need (by omega) (Tot.need (by omega) ((ih2 b _ ae (by omega) (by omega)).bind fun r' aj=>Tot.need (by omega) (Tot.mk (by simp only[Wai,Waj,Wam];omega)))))
  ·intro e least ok hd I
   show Tot (zfp (za2 n).1 (za2 n).2 e least) _
   unfold zfp;exact(z55 _).bind fun k _=>Tot.ite (fun _=>(ih1 e ok (by omega) I).bind fun r hr=>Tot.need (by omega) (Tot.need (by omega) (Tot.mk (by simp only[Wai,Waj,Wam];omega)))) fun _=>(ih1 e ok (by omega) I).bind fun r hr=>Tot.mk (by omega)
theorem yle {e:xtn} (ok:fmE e) (U:depE e<=1000) (I:szE e<=1000000):Tot (zhu e) fun r=>r.length<=64*szE e:=(yfz 1000000).1 e ok (by omega) I
theorem yc2 (e:xtn):Tot (zas e) fun b=>b=true->fmE e/\depE e<=24/\szE e<=16384/\∃t,zhu e=some t/\t.length<=16384:=by
 unfold zas
 refine(yft e).bind fun r hr=>Tot.ite (fun h0=>?_) fun _=>Tot.mk fun h=>by cases h
 obtain⟨ok,I,U⟩:=hr h0;obtain⟨t,ht,hl⟩:=yle ok (by omega) (by omega);rw[ht,Waa];exact Tot.mk fun h=>⟨ok,I,U,t,rfl,by have:=of_decide_eq_true h;omega⟩
theorem zr2 (e:xtn):Tot (za8 e) fun t=>t.length<=16384:=by
 unfold za8;refine(yc2 e).bind fun b hb=>Tot.ite (fun h=>?_) fun _=>Tot.mk (by simp);obtain⟨_,_,_,t,ht,hl⟩:=hb h;rw[ht,Waa];exact Tot.mk hl
theorem z5m (e:xtn):Tot (zdw e ⟨0,0,0,[],[]⟩) fun b=>b=true->e=⟨0,0,0,[],[]⟩:=by
 show Tot (zc0 (zdy 999999) e _) _
 unfold zc0
 refine Tot.ite (fun h1=>Tot.ite (fun h2=>Tot.ite (fun h3=>Tot.ite (fun h4=>Tot.ite (fun h5=>?_) fun _=>Tot.mk fun h=>by cases h) fun _=>Tot.mk fun h=>by cases h) fun _=>Tot.mk fun h=>by cases h) fun _=>Tot.mk fun h=>by cases h) fun _=>Tot.mk fun h=>by cases h
 have I:e.Args.length=0:=by simpa using h5
 rw[zcs (r:=.inr ()) (by simp[zez,I]),Waa];refine Tot.mk fun _=>?_;obtain⟨op,N,K,name,args⟩:=e;simp only at h1 h2 h3 h4 I;rw[h1,h2,h3,h4,WaJ I]
end Go.Lz

end
section
namespace Go.Lz
abbrev noE:xtn:=⟨0,0,0,[],[]⟩
mutual
def nS:xtp->Nat
 |⟨_,_,_,_,_,body,I⟩=>nSs body+nSs I+1
def nSs:List xtp->Nat
 |[]=>0
 |s::ss=>nS s+nSs ss
end
theorem ymh (s:xtp):nS s=nSs s.Body+nSs s.Else+1:=by cases s;rw[nS]
theorem z2v:∀{l m:List xtp},nSs (l++m)=nSs l+nSs m
 |[],m=>by simp[nSs]
 |e::es,m=>by rw[Wbh,nSs,nSs,z2v (l:=es)];omega
mutual
def fmS:xtp->Prop
 |⟨kind,name,target,value,args,body,I⟩=>zcx ⟨kind,name,target,value,args,body,I⟩=some true/\fmSs body/\fmSs I
def fmSs:List xtp->Prop
 |[]=>True
 |s::ss=>fmS s/\fmSs ss
end
theorem z41 (s:xtp):fmS s=(zcx s=some true/\fmSs s.Body/\fmSs s.Else):=by cases s;rw[fmS]
theorem z8c:∀{l m:List xtp},fmSs (l++m)↔fmSs l/\fmSs m
 |[],m=>by simp[fmSs]
 |e::es,m=>by rw[Wbh,fmSs,fmSs,z8c (l:=es),and_assoc]
theorem zxo:∀{l:List xtp},fmSs l->∀x∈l,fmS x
 |[],_,x,I=>by cases I
 |e::es,h,x,I=>by
  rw[fmSs]at h
  rcases WaB.1 I with rfl|I
  ·exact h.1
  ·exact zxo h.2 x I
structure GoodE (e:xtn):Prop where
 ok:fmE e
 dep:depE e<=25
 sz:szE e<=20000
theorem ycd (e:xtn):Tot (zas e) fun b=>b=true->fmE e/\depE e<=24/\szE e<=16384:=
 (yc2 e).imp fun b hb h=>⟨(hb h).1,(hb h).2.1,(hb h).2.2.1⟩
theorem z79 (e:xtn):Tot (zas e) fun b=>b=true->GoodE e:=
 (ycd e).imp fun b hb h=>⟨(hb h).1,by have:=(hb h).2.1;omega,by have:=(hb h).2.2;omega⟩
theorem ydw (e:xtn):Tot (zfl e) fun b=>b=true->GoodE e/\(e.Op=2\/(e.Op=3/\e.Args.length=1)):=by
 have no:∀{Q:Prop},Tot (some false) fun b=>b=true->Q:=Tot.mk fun h=>by cases h
 unfold zfl;refine Tot.ite (fun o=>(z79 e).bind fun b hb=>Tot.mk fun h=>⟨hb h,.inl o⟩) fun o2=>Tot.ite (fun I=>Tot.ite (fun a=>Tot.ite (fun n=>Tot.ite (fun k=>?_) fun _=>no) fun _=>no) fun _=>no) fun _=>no;obtain⟨b,hb,_⟩:=zus e.Name;rw[hb,Waa];refine Tot.ite (fun U=>?_) fun _=>no;subst U;obtain⟨op,N,K,name,args⟩:=e;simp only at I a n k hb|-;subst I;subst n;subst k
 match args,a with
 |[x],_=>
  rw[Wat,Waa];refine(ycd x).bind fun b hx=>Tot.mk fun h=>⟨?_,.inr ⟨rfl,rfl⟩⟩;obtain⟨g1,g2,g3⟩:=hx h;refine⟨?_,by simp only[depE,zol];omega,by simp only[szE,szEs];omega⟩;rw[fmE];refine⟨?_,g1,trivial⟩;simp[zcz,hb]
theorem z4h (e:xtn):Tot (zav e) fun b=>b=true->e=noE:=by
 unfold zav;exact(z5m e).bind fun b hb=>Tot.mk hb
theorem ygr (l:List xtn):Tot (zcy l) fun b=>b=true->∀x∈l,GoodE x:=by
 unfold zcy
 refine Tot.bind (Tot.loop (fun i=>i<=l.length/\∀x∈l.take i,GoodE x) (R:=fun r=>match r with|.inl b=>b=true->∀x∈l,GoodE x|.inr ()=>∀x∈l,GoodE x) (fun i=>l.length-i) ⟨Waf _,by simp⟩ fun i ⟨hi,hI⟩=>?_) fun r hr=>by
  cases r with
  |inl b=>exact Tot.mk hr
  |inr u=>exact Tot.mk fun _=>hr
 unfold zkj;refine Tot.ite (fun h=>?_) fun h=>Tot.mk ?_
 ·have I:i<l.length:=by omega
  refine(Tot.get I).bind fun x hx=>(z79 x).bind fun b hb=>Tot.ite (fun U=>Tot.mk ⟨⟨I,fun y hy=>?_⟩,by simp only;omega⟩) fun _=>Tot.mk fun h=>by cases h
  rw[zot I]at hy
  rcases WaN.1 hy with hy|hy
  ·exact hI y hy
  ·rw[WaX]at hy;rw[hy,<-hx.2];exact hb U
 ·have:i=l.length:=by omega
  subst this;rwa[Wbs]at hI
structure z5f (s:xtp):Prop where
 name:s.Name.length<=32
 args:∀x∈s.Args,GoodE x
 alen:s.Args.length<=16384
 kinds:(s.Kind=1/\s.Body=[]/\s.Else=[]/\s.Args=[]/\GoodE s.Target/\(s.Target.Op=2\/(s.Target.Op=3/\s.Target.Args.length=1))/\GoodE s.Value)\/((s.Kind=2\/s.Kind=3)/\s.Args=[]/\s.Target=noE/\GoodE s.Value)\/(s.Kind=4/\s.Args.length=2/\s.Target=noE/\s.Value=noE)\/(s.Kind=5/\s.Body=[]/\s.Else=[]/\s.Target=noE/\s.Value=noE)
theorem nilL {α:Type} {l:List α} (h:(l.length:Int)=0):l=[]:=WaJ (by omega)
theorem yci (s:xtp):Tot (zcx s) fun b=>b=true->z5f s:=by
 have no:∀{Q:Prop},Tot (some false) fun b=>b=true->Q:=Tot.mk fun h=>by cases h
 have n0:∀{l:Str},l=[]->l.length<=32:=fun h=>by rw[h];exact Waf _
 have a0:(s.Args.length:Int)=0->(∀x∈s.Args,GoodE x)/\s.Args.length<=16384:=fun h=>by rw[nilL h];exact⟨fun x hx=>(by cases hx),Waf _⟩
 have I:(s.Kind=2\/s.Kind=3)->s.Name=[]->(s.Args.length:Int)=0->Tot ((zav s.Target).bind fun aa=>if aa=true then((zas s.Value).bind fun ab=>some ab)else(some false)) fun b=>b=true->z5f s:=fun k n a=>
  (z4h _).bind fun b hb=>Tot.ite (fun ht=>(z79 _).bind fun c hc=>Tot.mk fun h=>⟨n0 n,(a0 a).1,(a0 a).2,.inr (.inl ⟨k,nilL a,hb ht,hc h⟩)⟩) fun _=>no
 have k4:s.Kind=4->Tot ((zaw s.Name).bind fun ad=>if ad=true then(if(s.Args.length:Int)=2 then((zcy s.Args).bind fun ae=>if ae=true then(if(s.Else.length:Int)=0 then((zav s.Target).bind fun af=>if af=true then((zav s.Value).bind fun U=>some U)else(some false))else(some false))else(some false))else(some false))else(some false)) fun b=>b=true->z5f s:=fun k=>
  (zus _).bind fun b1 h1=>Tot.ite (fun t1=>Tot.ite (fun l=>(ygr _).bind fun b2 h2=>Tot.ite (fun t2=>Tot.ite (fun e=>(z4h _).bind fun b3 h3=>Tot.ite (fun t3=>(z4h _).bind fun b4 h4=>Tot.mk fun t4=>⟨(h1 t1).1,h2 t2,by omega,.inr (.inr (.inl ⟨k,by omega,h3 t3,h4 t4⟩))⟩) fun _=>no) fun _=>no) fun _=>no) fun _=>no) fun _=>no
 unfold zcx;refine Tot.ite (fun hb=>?_) fun hb=>?_
 ·refine Tot.ite (fun k=>Tot.ite (fun he=>Tot.ite (fun n=>Tot.ite (fun a=>(ydw _).bind fun b1 h1=>Tot.ite (fun t1=>(z79 _).bind fun b2 h2=>Tot.mk fun t2=>⟨n0 n,(a0 a).1,(a0 a).2,.inl ⟨k,nilL hb,nilL he,nilL a,(h1 t1).1,(h1 t1).2,h2 t2⟩⟩) fun _=>no) fun _=>no) fun _=>no) fun _=>no) fun _=>?_
  refine Tot.ite (fun k=>Tot.ite (fun n=>Tot.ite (fun a=>I (.inl k) n a) fun _=>no) fun _=>no) fun _=>?_;refine Tot.ite (fun k=>Tot.ite (fun n=>Tot.ite (fun a=>Tot.ite (fun _=>I (.inr k) n a) fun _=>no) fun _=>no) fun _=>no) fun _=>?_;refine Tot.ite k4 fun _=>Tot.ite (fun k=>Tot.ite (fun he=>?_) fun _=>no) fun _=>no;exact(zus _).bind fun b1 h1=>Tot.ite (fun t1=>(z4h _).bind fun b2 h2=>Tot.ite (fun t2=>(z4h _).bind fun b3 h3=>Tot.ite (fun t3=>Tot.ite (fun l=>(ygr _).bind fun b4 h4=>Tot.mk fun t4=>⟨(h1 t1).1,h4 t4,by omega,.inr (.inr (.inr ⟨k,nilL hb,nilL he,h2 t2,h3 t3⟩))⟩) fun _=>no) fun _=>no) fun _=>no) fun _=>no
 ·refine Tot.ite (fun _=>no) fun _=>?_
  refine Tot.ite (fun k=>Tot.ite (fun n=>Tot.ite (fun a=>I (.inl k) n a) fun _=>no) fun _=>no) fun _=>?_;refine Tot.ite (fun k=>Tot.ite (fun n=>Tot.ite (fun a=>Tot.ite (fun _=>I (.inr k) n a) fun _=>no) fun _=>no) fun _=>no) fun _=>?_;exact Tot.ite k4 fun _=>Tot.ite (fun _=>no) fun _=>no
theorem zzx {s:xtp} (h:fmS s):z5f s:=by
 rw[z41]at h;obtain⟨b,hb,hq⟩:=yci s;rw[h.1]at hb;cases hb;exact hq rfl
theorem yi3 (e:xtn) (h:e.Op=3->e.Args.length=1):Tot (zgg e) fun r=>r.length<=16386:=by
 unfold zgg;refine Tot.ite (fun o=>?_) fun _=>Tot.mk (by simp)
 have hl:0<e.Args.length:=by have:=h o;omega
 exact(Tot.get hl).bind fun x _=>(zr2 x).bind fun r hr=>Tot.need (by omega) (Tot.need (by omega) (Tot.mk (by simp only[Wai,Waj,Wam];omega)))
theorem yca {s:xtp} (F:z5f s):Tot (zcw s) fun r=>1<=r.length/\r.length<=300000000:=by
 have hn:=F.name
 have ha:=F.alen
 unfold zcw;refine Tot.ite (fun k=>?_) fun U=>?_
 ·have hi:s.Target.Op=3->s.Target.Args.length=1:=fun h=>by have:=F.kinds;omega
  exact(zr2 _).bind fun r1 h1=>(yi3 _ hi).bind fun r2 h2=>Tot.need (by omega) (Tot.need (by omega) ((zr2 _).bind fun r3 h3=>Tot.need (by omega) (Tot.need (by omega) (Tot.mk (by simp only[Wai,Waj,Wam];omega)))))
 refine Tot.ite (fun k=>(zr2 _).bind fun r1 h1=>Tot.need (by omega) (Tot.need (by omega) (Tot.mk (by simp only[Wai,Waj,Wam];omega)))) fun k2=>?_;refine Tot.ite (fun k=>(zr2 _).bind fun r1 h1=>Tot.need (by omega) (Tot.need (by omega) (Tot.mk (by simp only[Wai,Waj,Wam];omega)))) fun k3=>?_;refine Tot.ite (fun k=>?_) fun k4=>?_
 ·have hl:s.Args.length=2:=by have:=F.kinds;omega
  exact Tot.need (by omega) (Tot.need (by omega) ((Tot.get (by omega)).bind fun x _=>(zr2 x).bind fun r1 h1=>Tot.need (by omega) (Tot.need (by omega) ((Tot.get (by omega)).bind fun y _=>(zr2 y).bind fun r2 h2=>Tot.need (by omega) (Tot.need (by omega) (Tot.mk (by simp only[Wai,Waj,Wam];omega)))))))
 refine Tot.need (by omega) (Tot.bind (Tot.loop (fun x=>x.2<=s.Args.length/\x.1.length<=33+16386*x.2) (R:=fun r=>r.length<=299999900) (fun x=>s.Args.length-x.2) ⟨Waf _,by simp only[Wai,Waj,Wam];omega⟩ fun⟨t,i⟩ ⟨hi,hI⟩=>?_) fun r hr=>Tot.need (by omega) (Tot.mk (by simp only[Wai,Waj,Wam];omega)));simp only at hi hI;unfold zkh;refine Tot.ite (fun h=>?_) fun h=>Tot.mk (show t.length<=299999900 by omega)
 have I:i<s.Args.length:=by omega
 exact Tot.ite (fun _=>Tot.need (by omega) ((Tot.get I).bind fun x _=>(zr2 x).bind fun r hr=>Tot.need (by omega) (Tot.mk ⟨⟨I,by simp only[Wai,Waj,Wam];omega⟩,by simp only;omega⟩))) fun _=>
  (Tot.get I).bind fun x _=>(zr2 x).bind fun r hr=>Tot.need (by omega) (Tot.mk ⟨⟨I,by simp only[Wai];omega⟩,by simp only;omega⟩)
theorem z6p:∀(d fuel:Nat),d<fuel->d<=1000->∀(l:List xtp) (left:Int),left<=1000000->Tot (zck fuel l (d:Int) left) fun r=>r<=1000000/\(0<=r->fmSs l/\(nSs l:Int)+r<=left)
 |d,0,h,_,_,_,_=>by omega
 |d,fuel+1,h,hd,[],left,hl=>by
  unfold zck zdl;refine Tot.ite (fun _=>by omega) fun _=>Tot.ite (fun h=>by simp at h) fun _=>Tot.ite (fun _=>Tot.mk (by omega)) fun _=>?_;rw[zcs (r:=.inr left) (by simp[zju]),Waa];exact Tot.mk ⟨hl,fun _=>⟨by rw[fmSs];trivial,by simp[nSs]⟩⟩
 |0,fuel+1,_,_,s::l,left,_=>by
  unfold zck zdl
  exact Tot.ite (fun _=>Tot.mk (by omega)) fun _=>Tot.ite (fun _=>Tot.ite (fun _=>Tot.mk (by omega)) fun h=>by omega) fun h=>by simp at h
 |d+1,fuel+1,h,hd,s::l',left,hl=>by
  generalize U:s::l'=l
  have ae:0<l.length:=by rw[<-U];simp
  have e1:w64 (((d+1:Nat):Int)-1)=(d:Int):=by rw[zhd (by omega) (by omega)];omega
  unfold zck zdl
  refine Tot.ite (fun _=>by omega) fun _=>Tot.ite (fun _=>?_) fun h=>by omega
  refine Tot.ite (fun h=>by omega) fun _=>Tot.ite (fun _=>Tot.mk (by omega)) fun _=>?_
  refine Tot.bind (Tot.loop (fun x=>x.2<=l.length/\x.1<=1000000/\(0<=x.1->fmSs (l.take x.2)/\(nSs (l.take x.2):Int)+x.1<=left))
   (R:=fun r=>match r with|.inl r=>r=-1|.inr r=>r<=1000000/\(0<=r->fmSs l/\(nSs l:Int)+r<=left)) (fun x=>l.length-x.2) ⟨Waf _,hl,fun _=>⟨by rw[List.take_zero,fmSs];trivial,by simp[nSs]⟩⟩ fun⟨lf,i⟩ ⟨a0,a1,a2⟩=>?_) fun r hr=>by
     cases r with
     |inl r=>exact Tot.mk (by simp only at hr;omega)
     |inr r=>exact Tot.mk hr
  simp only at a0 a1 a2;unfold zjv;refine Tot.ite (fun hi=>?_) fun hi=>Tot.mk ⟨a1,fun h0=>?_⟩
  ·refine Tot.ite (fun h0=>?_) fun h0=>Tot.mk ⟨a1,fun h=>(h0 h).elim⟩
   have I:i<l.length:=by omega
   obtain⟨b0,b1⟩:=a2 h0;rw[Wac I,Waa]
   generalize hx:l[i]=x
   obtain⟨b,hb,hF⟩:=yci x;rw[hb,Waa];refine Tot.ite (fun aa=>?_) fun _=>Tot.mk rfl;subst aa;refine(yca (hF rfl)).bind fun r hr=>?_;rw[zhd (n:=lf-(r.length:Int)) (by omega) (by omega),e1];refine Tot.ite (fun h1=>?_) fun h1=>Tot.mk ⟨⟨I,by simp only;omega,fun h=>(h1 h).elim⟩,by simp only;omega⟩;refine(z6p d fuel (by omega) (by omega) x.Body (lf-r.length) (by omega)).bind fun r1 ab=>Tot.ite (fun h2=>?_) fun h2=>Tot.mk ⟨⟨I,by simp only;omega,fun h=>(h2 h).elim⟩,by simp only;omega⟩
   refine(z6p d fuel (by omega) (by omega) x.Else r1 (by omega)).bind fun r2 ad=>Tot.mk ⟨⟨I,by simp only;omega,fun h3=>?_⟩,by simp only;omega⟩;simp only at h3|-;obtain⟨c0,c1⟩:=ab.2 h2;obtain⟨d0,d1⟩:=ad.2 h3;rw[zot I,z8c,z2v,hx];simp only[fmSs,nSs];rw[z41,ymh];exact⟨⟨b0,⟨hb,c0,d0⟩,trivial⟩,by omega⟩
  ·have:i=l.length:=by omega
   subst this
   have:=a2 h0
   rwa[Wbs]at this
theorem ym5 (l:List xtp):Tot (zht l) fun b=>b=true->fmSs l/\nSs l<=16384:=by
 unfold zht
 exact(z6p 24 1000000 (by omega) (by omega) l 16384 (by omega)).bind fun r hr=>Tot.mk fun h=>by
  have h0:=of_decide_eq_true h
  have:=hr.2 h0
  exact⟨this.1,by omega⟩
theorem z95:∀(n:Nat) (l:List xtp),fmSs l->zgr l+1<=n->nSs l<=16384->Tot (zfj n l) fun r=>r.length<=300000100*nSs l
 |0,l,_,h,_=>by omega
 |n+1,l,ok,hd,hs=>by
  show Tot (zfk (zfj n) l) _
  unfold zfk;refine Tot.bind (Tot.loop (fun x=>x.2<=l.length/\x.1.length<=300000100*nSs (l.take x.2)) (R:=fun r=>r.length<=300000100*nSs l) (fun x=>l.length-x.2) ⟨Waf _,by simp⟩ fun⟨t,i⟩ ⟨hi,hI⟩=>?_) fun r hr=>Tot.mk hr;simp only at hi hI;unfold zkg;refine Tot.ite (fun h=>?_) fun h=>Tot.mk ?_
  ·have h':i<l.length:=by omega
   rw[Wac h'];simp only[Waa]
   have U:=Wap h'
   have ab:nSs (l.take (i+1))<=nSs l:=by
    have:=z2v (l:=l.take (i+1)) (m:=l.drop (i+1))
    rw[WbU]at this;omega
   have aa:nSs (l.take (i+1))=nSs (l.take i)+nS l[i]:=by rw[zot h',z2v];simp[nSs]
   have I:=zxo ok _ U
   have dx:=zod U
   generalize l[i]=x at aa I dx
   have F:=zzx I
   rw[z41]at I;rw[zvk]at dx;rw[ymh]at aa
   have hB:=z95 n x.Body I.2.1 (by omega) (by omega)
   have hE:=z95 n x.Else I.2.2 (by omega) (by omega)
   have go:∀t':Str,t'.length<=300000100*nSs (l.take (i+1))->Tot (some (Sum.inl (t',i+1)):Option ((Str×Nat)⊕Str)) (Rd (fun x=>x.2<=l.length/\x.1.length<=300000100*nSs (l.take x.2)) (fun r=>r.length<=300000100*nSs l) (fun x=>l.length-x.2) (l.length-i)):=fun t' ht=>Tot.mk ⟨⟨h',ht⟩,by simp only;omega⟩
   refine Tot.ite (fun h0=>Tot.need (by omega) ((yca F).bind fun r hr=>Tot.need (by omega) (hB.bind fun b hb=>?_))) fun h0=>(yca F).bind fun r hr=>Tot.need (by omega) (hB.bind fun b hb=>?_)
   all_goals repeat' (first|refine Tot.need (by omega) ?_|refine Tot.ite (fun _=>?_) (fun _=>?_)|refine hE.bind fun e he=>?_|exact go _ (by simp only[Wai,Waj,Wam];omega))
  ·have:i=l.length:=by omega
   subst this;rwa[Wbs]at hI
theorem ydv {l:List xtp} (ok:fmSs l) (U:zgr l<=1000) (I:nSs l<=16384):Tot (zhs l) fun r=>r.length<=5000000000000:=by
 unfold zhs;exact(z95 1000000 l ok (by omega) I).bind fun r hr=>Tot.mk (by omega)
end Go.Lz

end
section
namespace Go.Lz
theorem z6v {α:Type} {xs:List α} {g:α->Prop} {f:Nat->Option (Nat⊕(Bool⊕Unit))} (step:∀i (h:i<xs.length),Tot (f i) fun r=>r=.inl (i+1)/\g xs[i]\/r=.inr (.inl false)) (last:f xs.length=some (.inr (.inr ()))):
  Tot (loop f 0) fun r=>r=.inl false\/r=.inr ()/\∀x∈xs,g x:=by
 refine Tot.loop (fun i=>i<=xs.length/\∀x∈xs.take i,g x) (fun i=>xs.length-i) ⟨Waf _,by simp⟩ fun i ⟨hi,hI⟩=>?_
 by_cases h:i<xs.length
 ·refine(step i h).imp fun r hr=>?_
  rcases hr with⟨rfl,I⟩|rfl
  ·refine⟨⟨h,fun y hy=>?_⟩,by simp only;omega⟩
   rw[zot h]at hy
   rcases WaN.1 hy with hy|hy
   ·exact hI y hy
   ·rw[WaX]at hy;rw[hy];exact I
  ·exact .inl rfl
 ·have:i=xs.length:=by omega
  subst this;rw[Wbs]at hI;exact⟨_,last,.inr ⟨rfl,hI⟩⟩
theorem ym7 (l:List Str) (s:Str):Tot (zhq l s) fun _=>True:=by
 unfold zhq
 refine Tot.bind (Tot.loop (fun i=>i<=l.length) (R:=fun _=>True) (fun i=>l.length-i) (Waf _) fun i hi=>?_) fun r _=>by cases r<;>exact Tot.mk trivial
 unfold zkf;refine Tot.ite (fun h=>?_) fun _=>Tot.mk trivial
 have I:i<l.length:=by omega
 exact(Tot.get I).bind fun x _=>Tot.ite (fun _=>Tot.mk trivial) fun _=>Tot.mk ⟨I,by simp only;omega⟩
def zzn (p:xtm) (n:Int):Prop:=0<=n/\n<(p.Lattice.Names.length:Int)
theorem zvf (p:xtm) (n:Int):Tot (zbc p n) fun b=>b=true->zzn p n:=by
 unfold zbc zbb;refine Tot.bind (Tot.ite (fun h=>Tot.mk (Q:=fun b=>b=true->zzn p n) fun h2=>⟨h,of_decide_eq_true h2⟩) fun _=>Tot.mk fun h=>by cases h) fun b hb=>Tot.mk hb
theorem z5c (k:Int):Tot (zba k) fun r=>r≠0->k=1\/k=2\/k=3\/k=4:=by
 unfold zba;exact Tot.ite (fun h=>Tot.mk fun _=>by omega) fun _=>Tot.ite (fun h=>Tot.mk fun _=>by omega) fun _=>Tot.ite (fun h=>Tot.mk fun _=>by omega) fun _=>Tot.ite (fun h=>Tot.mk fun _=>by omega) fun _=>Tot.mk fun h=>(h rfl).elim
theorem z92 (t:xt3):Tot (zbr t) fun r=>r=0->(t.Kind=1\/t.Kind=2\/t.Kind=3\/t.Kind=4)/\0<=t.Len/\t.Len<=32/\-32768<=t.Low/\t.Low<=32767/\(t.Len=0->t.Low=0):=by
 have no:∀{Q:Prop},Tot (some (6:Int)) fun b=>b=0->Q:=Tot.mk fun h=>by cases h
 unfold zbr;refine(z5c _).bind fun r hr=>Tot.ite (fun _=>no) fun h=>Tot.ite (fun _=>no) fun _=>Tot.ite (fun _=>no) fun _=>?_
 have I:=hr h
 exact Tot.ite (fun _=>Tot.ite (fun _=>Tot.ite (fun _=>no) fun _=>Tot.ite (fun _=>no) fun _=>Tot.mk fun _=>⟨I,by omega,by omega,by omega,by omega,by omega⟩) fun _=>no) fun _=>Tot.ite (fun _=>no) fun _=>Tot.ite (fun _=>no) fun _=>Tot.mk fun _=>⟨I,by omega,by omega,by omega,by omega,by omega⟩
theorem zya (k n:Int):Tot (zbs k n) fun b=>b=true->(-2147483648<=n/\n<2147483648)/\(k=1->n=0\/n=1)/\(k=2->-32768<=n/\n<32768):=by
 unfold zbs;refine Tot.ite (fun _=>Tot.ite (fun _=>Tot.mk fun _=>by omega) fun _=>Tot.mk fun h=>by have:=of_decide_eq_true h;omega) fun _=>?_
 have I:Tot (zbm k) fun r=>0<=r/\r<=2147483648/\(k=2->r=32768):=by
  unfold zbm;exact Tot.ite (fun _=>Tot.mk ⟨by decide,by decide,fun _=>rfl⟩) fun h=>Tot.mk ⟨by decide,by decide,fun U=>(h U).elim⟩
 obtain⟨a,ha,aa⟩:=I
 refine(z5c _).bind fun r _=>Tot.ite (fun _=>?_) fun _=>Tot.mk fun h=>by cases h
 rw[ha,Waa,zhd (by omega) (by omega)]
 refine Tot.ite (fun _=>Tot.mk fun h=>?_) fun _=>Tot.mk fun h=>by cases h
 have:=of_decide_eq_true h
 omega
structure ydl (p:xtm) (v:xtv):Prop where
 name:v.Name.length<=32
 kind:v.Type_.Kind=1\/v.Type_.Kind=2\/v.Type_.Kind=3\/v.Type_.Kind=4
 len:0<=v.Type_.Len/\v.Type_.Len<=32
 low:-32768<=v.Type_.Low/\v.Type_.Low<=32767
 mode:v.Mode=0\/v.Mode=1\/v.Mode=2
 scalar:v.Mode≠0->v.Type_.Len=0
 label:v.Label=-1\/zzn p v.Label
 safe:-2147483648<=v.Safe/\v.Safe<2147483648
 zero:v.Type_.Len=0->v.Type_.Low=0
 vsafe:(v.Type_.Kind=1->v.Safe=0\/v.Safe=1)/\(v.Type_.Kind=2->-32768<=v.Safe/\v.Safe<32768)
theorem ypg (p:xtm) (v:xtv):Tot (zea p v) fun b=>b=true->ydl p v:=by
 have no:∀{Q:Prop},Tot (some false) fun b=>b=true->Q:=Tot.mk fun h=>by cases h
 unfold zea;refine(zus _).bind fun b hb=>Tot.ite (fun h1=>(z92 _).bind fun r hr=>Tot.ite (fun h2=>?_) fun _=>no) fun _=>no;obtain⟨t1,t2,t3,t4,t5,t6⟩:=hr h2
 have n:=(hb h1).1
 refine Tot.ite (fun m=>Tot.ite (fun s=>?_) fun _=>no) fun I=>?_
 ·refine Tot.ite (fun l=>Tot.ite (fun e=>Tot.mk fun _=>⟨n,t1,⟨t2,t3⟩,⟨t4,t5⟩,.inl m,fun h=>(h m).elim,.inl l,by omega,t6,by omega⟩) fun e=>Tot.mk fun _=>⟨n,t1,⟨t2,t3⟩,⟨t4,t5⟩,.inl m,fun h=>(h m).elim,.inl l,by omega,t6,by omega⟩) fun l=>?_
  exact(zvf _ _).bind fun b hl=>Tot.ite (fun hb=>Tot.ite (fun e=>Tot.mk fun _=>⟨n,t1,⟨t2,t3⟩,⟨t4,t5⟩,.inl m,fun h=>(h m).elim,.inr (hl hb),by omega,t6,by omega⟩) fun e=>Tot.mk fun _=>⟨n,t1,⟨t2,t3⟩,⟨t4,t5⟩,.inl m,fun h=>(h m).elim,.inr (hl hb),by omega,t6,by omega⟩) fun _=>no
 refine Tot.ite (fun m=>Tot.ite (fun s=>(zvf _ _).bind fun b hl=>Tot.ite (fun hb=>Tot.mk fun e=>⟨n,t1,⟨t2,t3⟩,⟨t4,t5⟩,.inr (.inl m),fun _=>of_decide_eq_true e,.inr (hl hb),by omega,t6,by omega⟩) fun _=>no) fun _=>no) fun U=>?_;exact Tot.ite (fun m=>(zvf _ _).bind fun b hl=>Tot.ite (fun hb=>Tot.ite (fun e=>(zya _ _).bind fun c hc=>Tot.mk fun h=>⟨n,t1,⟨t2,t3⟩,⟨t4,t5⟩,.inr (.inr m),fun _=>e,.inr (hl hb),(hc h).1,t6,(hc h).2⟩) fun _=>no) fun _=>no) fun _=>no
structure yo6 (p:xtm) (b:xt1):Prop where
 name:b.Name.length<=32
 kind:b.Kind.length<=50
 label:zzn p b.Label
structure ygu (p:xtm) (s:xt2):Prop where
 name:s.Name.length<=32
 frm:zzn p s.From
 to:zzn p s.To
structure zlc (p:xtm):Prop where
 nl:p.Lattice.Names.length<=8
 ns:p.Sites.length<=8
 nv:p.Vars.length<=48
 nb:p.Blocks.length<=12
 nt:p.Tasks.length<=4
 nb2:p.Lattice.Below.length<=16384
 names:∀s∈p.Lattice.Names,s.length<=32
 below:∀b∈p.Lattice.Below,zzn p b.a0/\zzn p b.a1
 sites:∀s∈p.Sites,ygu p s
 vars:∀v∈p.Vars,ydl p v
 blocks:∀b∈p.Blocks,yo6 p b
theorem yig (p:xtm):Tot (zgf p) fun b=>b=true->zlc p:=by
 have no:∀{Q:Prop},Tot (some false) fun b=>b=true->Q:=Tot.mk fun h=>by cases h
 have bad:∀{g:Prop} {i:Nat},Tot (some (.inr (.inl false)):Option (Nat⊕(Bool⊕Unit))) fun r=>r=.inl (i+1)/\g\/r=.inr (.inl false):=Tot.mk (.inr rfl)
 unfold zgf;refine Tot.ite (fun _=>no) fun n1=>Tot.ite (fun _=>no) fun n2=>Tot.ite (fun _=>no) fun n3=>Tot.ite (fun _=>no) fun n4=>Tot.ite (fun _=>no) fun n5=>Tot.ite (fun _=>no) fun n6=>?_;refine Tot.bind (z6v (xs:=p.Lattice.Names) (g:=fun s=>s.length<=32) (fun i h=>?_) (by simp[zg8])) fun r hr=>?_
 ·unfold zg8
  rw[if_pos (by omega),Wac h,Waa];exact(zus _).bind fun b hb=>Tot.ite (fun h1=>(ym7 _ _).bind fun k _=>Tot.ite (fun _=>Tot.mk (.inl ⟨rfl,(hb h1).1⟩)) fun _=>bad) fun _=>bad
 rcases hr with rfl|⟨rfl,I⟩
 ·exact no
 refine Tot.bind (z6v (xs:=p.Lattice.Below) (g:=fun b=>zzn p b.a0/\zzn p b.a1) (fun i h=>?_) (by simp[zg7])) fun r hr=>?_
 ·unfold zg7
  rw[if_pos (by omega),Wac h,Waa];exact(zvf _ _).bind fun b hb=>Tot.ite (fun h1=>(zvf _ _).bind fun c hc=>Tot.ite (fun h2=>Tot.mk (.inl ⟨rfl,hb h1,hc h2⟩)) fun _=>bad) fun _=>bad
 rcases hr with rfl|⟨rfl,U⟩
 ·exact no
 refine Tot.bind (z6v (xs:=p.Sites) (g:=ygu p) (fun i h=>?_) (by simp[zg6])) fun r hr=>?_
 ·unfold zg6
  rw[if_pos (by omega),Wac h,Waa];exact(zus _).bind fun a ha=>Tot.ite (fun h0=>(zvf _ _).bind fun b hb=>Tot.ite (fun h1=>(zvf _ _).bind fun c hc=>Tot.ite (fun h2=>Tot.mk (.inl ⟨rfl,(ha h0).1,hb h1,hc h2⟩)) fun _=>bad) fun _=>bad) fun _=>bad
 rcases hr with rfl|⟨rfl,g3⟩
 ·exact no
 refine Tot.bind (z6v (xs:=p.Vars) (g:=ydl p) (fun i h=>?_) (by simp[zg5])) fun r hr=>?_
 ·unfold zg5
  rw[if_pos (by omega),Wac h,Waa];exact(ypg _ _).bind fun a ha=>Tot.ite (fun h0=>Tot.mk (.inl ⟨rfl,ha h0⟩)) fun _=>bad
 rcases hr with rfl|⟨rfl,g4⟩
 ·exact no
 refine Tot.bind (z6v (xs:=p.Blocks) (g:=yo6 p) (fun i h=>?_) (by simp[zg4])) fun r hr=>?_
 ·unfold zg4
  rw[if_pos (by omega),Wac h,Waa];exact(zus _).bind fun a ha=>Tot.ite (fun h0=>(ydi _ _ (Nat.le_of_ble_eq_true rfl)).bind fun b hb=>Tot.ite (fun h1=>(zvf _ _).bind fun c hc=>Tot.ite (fun h2=>Tot.mk (.inl ⟨rfl,(ha h0).1,WaF (hb h1) (Nat.le_of_ble_eq_true rfl),hc h2⟩)) fun _=>bad) fun _=>bad) fun _=>bad
 rcases hr with rfl|⟨rfl,g5⟩
 ·exact no
 exact Tot.mk fun _=>⟨by omega,by omega,by omega,by omega,by omega,by omega,I,U,g3,g4,g5⟩
structure z9t (p:xtm) (t:xt4):Prop where
 every:1<=t.Every/\t.Every<=65536
 prio:0<=t.Priority/\t.Priority<=255
 nbud:t.Budget.length=p.Lattice.Names.length
 bud:∀b∈t.Budget,0<=b/\b<=4096
 ok:fmSs t.Body
 n:nSs t.Body<=16384
theorem yhl (p:xtm):Tot (zge p) fun b=>b=true->∀t∈p.Tasks,z9t p t:=by
 have bad:∀{g:Prop} {i:Nat},Tot (some (.inr (.inl false)):Option (Nat⊕(Bool⊕Unit))) fun r=>r=.inl (i+1)/\g\/r=.inr (.inl false):=Tot.mk (.inr rfl)
 unfold zge;refine Tot.bind (z6v (xs:=p.Tasks) (g:=z9t p) (fun i h=>?_) (by simp[zg2])) fun r hr=>?_
 ·unfold zg2
  rw[if_pos (by omega),Wac h,Waa];refine Tot.ite (fun _=>bad) fun a1=>Tot.ite (fun _=>bad) fun a2=>Tot.ite (fun _=>bad) fun a3=>Tot.ite (fun _=>bad) fun U=>Tot.ite (fun a5=>(ym5 _).bind fun b hb=>Tot.ite (fun h1=>?_) fun _=>bad) fun _=>bad;refine Tot.bind (z6v (xs:=p.Tasks[i].Budget) (g:=fun b=>0<=b/\b<=4096) (fun k I=>?_) (by simp[zg1])) fun r hr=>?_
  ·unfold zg1
   rw[if_pos (by omega),Wac I,Waa];exact Tot.ite (fun _=>bad) fun b1=>Tot.ite (fun _=>bad) fun b2=>Tot.mk (.inl ⟨rfl,by omega,by omega⟩)
  rcases hr with rfl|⟨rfl,g⟩
  ·exact bad
  ·exact Tot.mk (.inl ⟨rfl,⟨by omega,by omega⟩,⟨by omega,by omega⟩,by omega,g,(hb h1).1,(hb h1).2⟩)
 rcases hr with rfl|⟨rfl,g⟩
 ·exact Tot.mk fun h=>by cases h
 ·exact Tot.mk fun _=>g
theorem z2j (n:Int) (h1:-10000000*900<n) (h2:n<9000000000):Tot (zb6 n) fun r=>r.length<=12:=by
 unfold zb6;refine Tot.ite (fun h=>?_) fun h=>(zo1 n (by omega) (by omega)).bind fun r hr=>Tot.mk (by omega);rw[zhd (by omega) (by omega)];exact(zo1 (0-n) (by omega) (by omega)).bind fun r hr=>Tot.need (by omega) (Tot.mk (by simp only[Wai,Waj,Wam];omega))
theorem ypl {p:xtm} {v:xtv} (g:ydl p v):Tot (ziw v.Type_) fun r=>r.length<=100:=by
 have k:=g.kind
 have l:=g.len
 have w:=g.low
 unfold ziw;refine(Tot.idx (by omega) (by simp only[Waj,Wam];omega)).bind fun x I=>?_
 have U:x.length<=4:=by
  simp only[WaB,List.not_mem_nil,or_false]at I
  rcases I with rfl|rfl|rfl|rfl|rfl<;>decide
 refine Tot.ite (fun _=>Tot.mk (by omega)) fun _=>(z2j _ (by omega) (by omega)).bind fun r hr=>Tot.need (by omega) (Tot.need (by omega) ?_);rw[zhd (n:=v.Type_.Low+v.Type_.Len) (by omega) (by omega),zhd (by omega) (by omega)];exact(z2j _ (by omega) (by omega)).bind fun r2 aa=>Tot.need (by omega) (Tot.need (by omega) (Tot.need (by omega) (Tot.mk (by simp only[Wai,Waj,Wam];omega))))
theorem zyn {p:xtm} (P:zlc p) {n:Int} (h:zzn p n):Tot (idx p.Lattice.Names n) fun s=>s.length<=32:=
 (Tot.idx h.1 h.2).imp fun s I=>P.names s I
theorem yrn {p:xtm} (P:zlc p) {v:xtv} (g:ydl p v):Tot (zix p v) fun r=>r.length<=300:=by
 have n:=g.name
 have m:=g.mode
 have s:=g.safe
 unfold zix;refine(Tot.idx (by omega) (by simp only[Waj,Wam];omega)).bind fun x U=>?_
 have aa:x.length<=7:=by
  simp only[WaB,List.not_mem_nil,or_false]at U
  rcases U with rfl|rfl|rfl<;>decide
 refine Tot.need (by omega) (Tot.need (by omega) ((ypl g).bind fun t ht=>Tot.need (by omega) ?_))
 have hs:=z2j v.Safe (by omega) (by omega)
 refine Tot.ite (fun hl=>?_) fun _=>?_
 ·have I:zzn p v.Label:=by exact g.label.resolve_left fun h=>by omega
  refine(zyn P I).bind fun y hy=>?_
  repeat' (first|refine Tot.need (by omega) ?_|refine Tot.ite (fun _=>?_) (fun _=>?_)|refine hs.bind fun e he=>?_|exact Tot.mk (by simp only[Wai,Waj,Wam];omega))
 ·repeat' (first|refine Tot.need (by omega) ?_|refine Tot.ite (fun _=>?_) (fun _=>?_)|refine hs.bind fun e he=>?_|exact Tot.mk (by simp only[Wai,Waj,Wam];omega))
theorem ylf {p:xtm} (P:zlc p) {t:xt4} (g:z9t p t) (hd:zgr t.Body<=1000):Tot (zhp p t) fun r=>r.length<=5000000001000:=by
 have e:=g.every
 have pr:=g.prio
 have nb:=g.nbud
 have nl:=P.nl
 unfold zhp;refine(zo1 _ (by omega) (by omega)).bind fun r1 h1=>Tot.need (by omega) (Tot.need (by omega) ((zo1 _ (by omega) (by omega)).bind fun r2 h2=>Tot.need (by omega) ?_));refine Tot.bind (Tot.loop (fun x=>x.2<=t.Budget.length/\x.1.length<=50+60*x.2) (R:=fun r=>r.length<=600) (fun x=>t.Budget.length-x.2) ⟨Waf _,by simp only[Wai,Waj,Wam];omega⟩ fun⟨s,i⟩ ⟨hi,hI⟩=>?_) fun s hs=>?_
 ·simp only at hi hI
  unfold zke;refine Tot.ite (fun h=>?_) fun _=>Tot.mk (show s.length<=600 by omega)
  have I:i<t.Budget.length:=by omega
  have U:i<p.Lattice.Names.length:=by omega
  have hn:=P.names _ (Wap U)
  have hb:=g.bud _ (Wap I)
  rw[Wac I,Wac U];simp only[Waa]
  have dg:=zo1 _ hb.1 (by omega)
  exact Tot.ite (fun _=>Tot.need (by omega) (Tot.need (by omega) (dg.bind fun d hd=>Tot.need (by omega) (Tot.need (by omega) (Tot.mk ⟨⟨I,by simp only[Wai,Waj,Wam];omega⟩,by simp only;omega⟩))))) fun _=>
   Tot.need (by omega) (Tot.need (by omega) (dg.bind fun d hd=>Tot.need (by omega) (Tot.need (by omega) (Tot.mk ⟨⟨I,by simp only[Wai,Waj,Wam];omega⟩,by simp only;omega⟩))))
 ·exact Tot.need (by omega) ((ydv g.ok hd g.n).bind fun b hb=>Tot.ite (fun _=>Tot.need (by omega) (Tot.mk (by simp only[Wai,Waj,Wam];omega))) fun _=>Tot.need (by omega) (Tot.need (by omega) (Tot.need (by omega) (Tot.mk (by simp only[Wai,Waj,Wam];omega)))))
theorem z85 {α:Type} {xs:List α} {c b m:Nat} {f:Str×Nat->Option ((Str×Nat)⊕Str)} (hc:xs.length<=m) (step:∀(s:Str) i (h:i<xs.length),s.length<=b+c*i->s.length<=b+c*m->Tot (f (s,i)) fun r=>∃s',r=.inl (s',i+1)/\s'.length<=s.length+c) (last:∀s,f (s,xs.length)=some (.inr s)) (s:Str) (I:s.length<=b):
  Tot (loop f (s,0)) fun r=>r.length<=b+c*m:=by
 refine Tot.loop (fun x=>x.2<=xs.length/\x.1.length<=b+c*x.2) (fun x=>xs.length-x.2) ⟨Waf _,by simpa using I⟩ fun⟨s,i⟩ ⟨hi,hI⟩=>?_;simp only at hi hI
 have hm:c*i<=c*m:=Nat.mul_le_mul_left _ (by omega)
 by_cases h:i<xs.length
 ·refine(step s i h hI (by omega)).imp fun r hr=>?_
  obtain⟨s',rfl,hl⟩:=hr;exact⟨⟨h,by simp only[Nat.mul_add];omega⟩,by simp only;omega⟩
 ·have:i=xs.length:=by omega
  subst this;exact⟨_,last s,show s.length<=_ by omega⟩
theorem ydu {p:xtm} (P:zlc p) (T:∀t∈p.Tasks,z9t p t) (hd:∀t∈p.Tasks,zgr t.Body<=1000):Tot (zho p) fun _=>True:=by
 unfold zho;refine Tot.bind (z85 (xs:=p.Lattice.Names) (c:=40) (b:=0) (m:=8) P.nl (fun s i h I hm=>?_) (fun s=>by simp[zh9]) [] (by simp)) fun s1 h1=>?_
 ·unfold zh9
  dsimp only
  have hn:=P.names _ (Wap h)
  rw[if_pos (by omega),Wac h,Waa];exact Tot.need (by omega) (Tot.need (by omega) (Tot.need (by omega) (Tot.mk ⟨_,rfl,by simp only[Wai,Waj,Wam];omega⟩)))
 refine Tot.bind (z85 (xs:=p.Lattice.Below) (c:=80) (b:=320) (m:=16384) P.nb2 (fun s i h I hm=>?_) (fun s=>by simp[zh8]) s1 (by omega)) fun s2 h2=>?_
 ·unfold zh8
  dsimp only
  have hn:=P.below _ (Wap h)
  rw[if_pos (by omega),Wac h,Waa];exact(zyn P hn.1).bind fun x U=>Tot.need (by omega) (Tot.need (by omega) ((zyn P hn.2).bind fun y hy=>Tot.need (by omega) (Tot.need (by omega) (Tot.need (by omega) (Tot.mk ⟨_,rfl,by simp only[Wai,Waj,Wam];omega⟩)))))
 refine Tot.bind (z85 (xs:=p.Sites) (c:=120) (b:=1500000) (m:=8) P.ns (fun s i h I hm=>?_) (fun s=>by simp[zh7]) s2 (by omega)) fun s3 h3=>?_
 ·unfold zh7
  dsimp only
  have hn:=P.sites _ (Wap h)
  have hl:=hn.name
  rw[if_pos (by omega),Wac h,Waa];exact Tot.need (by omega) (Tot.need (by omega) ((zyn P hn.frm).bind fun x U=>Tot.need (by omega) (Tot.need (by omega) ((zyn P hn.to).bind fun y hy=>Tot.need (by omega) (Tot.need (by omega) (Tot.need (by omega) (Tot.mk ⟨_,rfl,by simp only[Wai,Waj,Wam];omega⟩)))))))
 refine Tot.bind (z85 (xs:=p.Vars) (c:=300) (b:=1600000) (m:=48) P.nv (fun s i h I hm=>?_) (fun s=>by simp[zh6]) s3 (by omega)) fun s4 h4=>?_
 ·unfold zh6
  dsimp only;rw[if_pos (by omega),Wac h,Waa];exact(yrn P (P.vars _ (Wap h))).bind fun x U=>Tot.need (by omega) (Tot.mk ⟨_,rfl,by simp only[Wai];omega⟩)
 refine Tot.bind (z85 (xs:=p.Blocks) (c:=200) (b:=1700000) (m:=12) P.nb (fun s i h I hm=>?_) (fun s=>by simp[zh5]) s4 (by omega)) fun s5 h5=>?_
 ·unfold zh5
  dsimp only
  have hn:=P.blocks _ (Wap h)
  have hl:=hn.name
  have hk:=hn.kind
  rw[if_pos (by omega),Wac h,Waa];exact Tot.need (by omega) (Tot.need (by omega) (Tot.need (by omega) (Tot.need (by omega) ((zyn P hn.label).bind fun x U=>Tot.need (by omega) (Tot.need (by omega) (Tot.need (by omega) (Tot.mk ⟨_,rfl,by simp only[Wai,Waj,Wam];omega⟩)))))))
 refine Tot.bind (z85 (xs:=p.Tasks) (c:=5000000001000) (b:=1800000) (m:=4) P.nt (fun s i h I hm=>?_) (fun s=>by simp[zh4]) s5 (by omega)) fun s6 h6=>Tot.mk trivial;unfold zh4;dsimp only;rw[if_pos (by omega),Wac h,Waa];exact(ylf P (T _ (Wap h)) (hd _ (Wap h))).bind fun x U=>Tot.need (by omega) (Tot.mk ⟨_,rfl,by simp only[Wai];omega⟩)
theorem yc1 (p:xtm) (I:∀t∈p.Tasks,zgr t.Body<=1000):Tot (zbq p) fun b=>b=true->zlc p/\∀t∈p.Tasks,z9t p t:=by
 unfold zbq
 exact(yig p).bind fun a ha=>Tot.ite (fun h1=>(yhl p).bind fun b hb=>Tot.ite (fun h2=>(ydu (ha h1) (hb h2) I).bind fun _ _=>Tot.mk fun _=>⟨ha h1,hb h2⟩) fun _=>Tot.mk fun h=>by cases h) fun _=>Tot.mk fun h=>by cases h
end Go.Lz

end
section
namespace Go.Lz
def zug {α:Type} (xs:List α) (p:α->Bool):Int:=match xs.findIdx? p with|some i=>(i:Int)|none=>-1
theorem ycj {α:Type} (n:Nat) (xs:List α) (p:α->Bool) (hn:n=xs.length) (d:α):(List.range n).find? (fun i=>p (xs.getD i d))=xs.findIdx? p:=by
 subst hn
 induction xs with
 |nil=>rfl
 |cons x xs I=>
  rw[Waj,List.range_succ_eq_map,WbQ,List.findIdx?_cons];simp only[WbW]
  cases U:p x with
  |true=>rfl
  |false=>
   rw[List.find?_map,<-I];simp only[Function.comp_def,Nat.succ_eq_add_one,Wb9];rfl
theorem znm {α:Type} {xs:List α} {p:α->Bool} {f:Nat->Option (Nat⊕(Int⊕Unit))} (step:∀i (hi:i<xs.length),f i=some (if p xs[i]then .inr (.inl (i:Int))else .inl (i+1))) (last:f xs.length=some (.inr (.inr ()))):
  (loop f 0).bind (fun e=>match e with|.inl e=>some e|.inr ()=>some (-1))=some (zug xs p):=by
 cases xs with
 |nil=>rw[show loop f 0=_ from zcs last];rfl
 |cons x r=>
  generalize I:x::r=xs at step last|-
  rw[zk8 xs.length (fun i=>p (xs.getD i x)) (fun i=>.inl (i:Int)) (.inr ()) (fun i hi=>by
   rw[step i hi];simp[List.getD_eq_getElem?_getD,hi]) last,ycj _ _ _ rfl]
  unfold zug;cases xs.findIdx? p<;>rfl
theorem z44 {α:Type} {xs:List α} {p:α->Bool}:0<=zug xs p↔∃x∈xs,p x=true:=by
 unfold zug
 cases h:xs.findIdx? p with
 |none=>
  have:=List.findIdx?_eq_none_iff.1 h
  constructor
  ·intro h;dsimp only at h;omega
  ·rintro⟨x,U,I⟩
   rw[this x U]at I;cases I
 |some i=>
  constructor
  ·intro _
   obtain⟨hi,I,_⟩:=Wci.1 h;exact⟨xs[i],Wap hi,I⟩
  ·intro _;dsimp only;omega
theorem ykn {α:Type} {s:List α} {p:α->Bool}:decide (0<=zug s p)=s.any p:=by
 rw[Wa1,decide_eq_true_eq,z44,Wbv]
def varN (p:xtm) (name:Str):Int:=zug p.Vars fun v=>decide (v.Name=name)
def zio (p:xtm) (name:Str):Int:=zug p.Blocks fun v=>decide (v.Name=name)
def zou (p:xtm) (name:Str):Int:=zug p.Sites fun v=>decide (v.Name=name)
theorem zpc (p:xtm) (name:Str):za0 p name=some (varN p name):=
 znm (fun i hi=>by by_cases h:p.Vars[i].Name=name<;>simp[ziv,hi,h]) (by simp[ziv])
theorem zmo (p:xtm) (name:Str):zbp p name=some (zio p name):=
 znm (fun i hi=>by by_cases h:p.Blocks[i].Name=name<;>simp[zg0,hi,h]) (by simp[zg0])
theorem zr1 (p:xtm) (name:Str):zcv p name=some (zou p name):=
 znm (fun i hi=>by by_cases h:p.Sites[i].Name=name<;>simp[zh3,hi,h]) (by simp[zh3])
theorem z8h {d:Nat}:∀{l:List xtn},(∀(i:Nat) (h:i<l.length),depE l[i]<=d)->zol l<=d
 |[],_=>by simp[zol]
 |e::es,h=>by
  have h1:=h 0 (by simp)
  have h2:=z8h (l:=es) (fun i hi=>h (i+1) (by simpa using hi))
  simp only[zol,List.getElem_cons_zero]at h1|-;omega
theorem z8g {d:Nat}:∀{l:List xtp},(∀(i:Nat) (h:i<l.length),depS l[i]<=d)->zgr l<=d
 |[],_=>by simp[zgr]
 |e::es,h=>by
  have h1:=h 0 (by simp)
  have h2:=z8g (l:=es) (fun i hi=>h (i+1) (by simpa using hi))
  simp only[zgr,List.getElem_cons_zero]at h1|-;omega
theorem z60 {n:Int} (h1:0<=n) (h2:n<=1000000):w64 (n-1)=n-1:=by rw[zn1];omega
theorem ym9:∀(d fuel:Nat),d<fuel->d<=1000->∀(e:xtn) (left:Int),∃r,zde fuel e (d:Int) left=some r/\(0<=r->depE e<=d)
 |d,0,h,_,_,_=>by omega
 |0,fuel+1,_,_,e,left=>⟨-1,by simp[zde,zgq],by omega⟩
 |d+1,fuel+1,h,hd,e,left=>by
  have e1:w64 (((d+1:Nat):Int)-1)=(d:Int):=by rw[z60 (by omega) (by omega)];omega
  have e2:¬(((d+1:Nat):Int)<1):=by omega
  simp only[zde,zgq,e2,if_false]
  generalize w64 (left-(w64 ((w64 (1+(e.Args.length:Int)))+(w64 ((e.Name.length:Int).tdiv 100)))))=l0
  by_cases hl:l0<0
  ·exact⟨-1,by simp[hl],by omega⟩
  simp only[hl,if_false]
  obtain⟨r,hr,U⟩:=zmp (f:=zd4 (zde fuel) e ((d+1:Nat):Int)) (fun s=>s.2<=e.Args.length/\(0<=s.1->∀(j:Nat) (h:j<e.Args.length),j<s.2->depE e.Args[j]<=d))
   (fun r=>0<=r->depE e<=d+1) (fun s=>e.Args.length-s.2) (fun⟨left,i⟩ ⟨hi,hI⟩=>by
     simp only at hi hI
     by_cases h1:i<e.Args.length
     ·by_cases h2:0<=left
      ·obtain⟨r,hr,U⟩:=ym9 d fuel (by omega) (by omega) e.Args[i] left
       refine .inl ⟨(r,i+1),?_,⟨h1,fun h0 j I ab=>?_⟩,by simp only;omega⟩
       ·simp only[zd4,Waw,h1,h2,if_true,Wac h1,Waa,e1,hr]
       ·by_cases aa:j=i
        ·subst aa;exact U h0
        ·exact hI h2 j I (by omega)
      ·exact .inr ⟨left,by simp[zd4,h1,h2],fun h=>(h2 h).elim⟩
     ·refine .inr ⟨left,by simp[zd4,h1],fun h=>?_⟩
      rw[zd5]
      have:=z8h (fun j I=>hI h j I (by omega))
      omega) (l0,0) ⟨Waf _,fun _ j _ I=>by simp at I⟩
  exact⟨r,by rw[hr];rfl,U⟩
theorem z3d (e:xtn) (left:Int):∃r,zdh e 60 left=some r/\(0<=r->depE e<=60):=ym9 60 1000000 (by omega) (by omega) e left
theorem yjc:∀(d fuel:Nat),d+1<fuel->d<=1000->∀(l:List xtp) (left:Int),∃r,zbu fuel l (d:Int) left=some r/\(0<=r->zgr l<=d+60)
 |d,0,h,_,_,_=>by omega
 |d,fuel+1,h,hd,[],left=>by
  simp only[zbu,zel,Wam]
  have e0:¬(0<((0:Nat):Int)):=by omega
  simp only[e0,if_false]
  generalize w64 (left-((0:Nat):Int))=l0
  by_cases hl:l0<0
  ·exact⟨-1,by simp[hl],by omega⟩
  ·refine⟨l0,?_,fun _=>by simp[zgr]⟩
   simp only[hl,if_false];rw[zcs (r:=l0) (by simp[zk3])];rfl
 |0,fuel+1,_,_,s::l,left=>⟨-1,by simp[zbu,zel],by omega⟩
 |d+1,fuel+1,h,hd,s::l,left=>by
  generalize aa:s::l=I
  have e1:w64 (((d+1:Nat):Int)-1)=(d:Int):=by rw[z60 (by omega) (by omega)];omega
  have e2:¬(((d+1:Nat):Int)<1):=by omega
  have e3:0<(I.length:Int):=by subst aa;simp
  simp only[zbu,zel,e2,e3,if_true,if_false]
  generalize w64 (left-(I.length:Int))=l0
  by_cases hl:l0<0
  ·exact⟨-1,by simp[hl],by omega⟩
  simp only[hl,if_false]
  obtain⟨r,hr,hR⟩:=zmp (f:=zb7 (zbu fuel) I ((d+1:Nat):Int)) (fun s=>s.2<=I.length/\(0<=s.1->∀(j:Nat) (h:j<I.length),j<s.2->depS I[j]<=d+1+60))
   (fun r=>0<=r->zgr I<=d+1+60) (fun s=>I.length-s.2) (fun⟨left,i⟩ ⟨hi,hI⟩=>by
     simp only at hi hI
     by_cases h1:i<I.length
     ·by_cases h2:0<=left
      ·generalize hs:I[i]=s at*
       have next:∀r:Int,(0<=r->depS s<=d+1+60)->(i+1<=I.length/\(0<=r->∀(j:Nat) (h:j<I.length),j<i+1->depS I[j]<=d+1+60)):=fun r hr=>⟨h1,fun h0 j U ar=>by
        by_cases ab:j=i
        ·subst ab;rw[hs];exact hr h0
        ·exact hI h2 j U (by omega)⟩
       obtain⟨r1,ad,ae⟩:=z3d s.Target (w64 (left-(w64 ((s.Name.length:Int).tdiv 100))))
       have base:zb7 (zbu fuel) I ((d+1:Nat):Int) (left,i)=zb7 (zbu fuel) I ((d+1:Nat):Int) (left,i):=rfl
       conv at base=>rhs;simp only[zb7,Waw,h1,h2,if_true,Wac h1,Waa,hs,ad,e1]
       by_cases k1:0<=r1
       case neg=>exact .inl ⟨(r1,i+1),by rw[base];simp[k1],next r1 (fun h=>(k1 h).elim),by simp only;omega⟩
       obtain⟨r2,af,ai⟩:=z3d s.Value r1;simp only[k1,if_true,af,Waa]at base
       by_cases k2:0<=r2
       case neg=>exact .inl ⟨(r2,i+1),by rw[base];simp[k2],next r2 (fun h=>(k2 h).elim),by simp only;omega⟩
       obtain⟨r3,aj,ak⟩:=z3d (⟨0,0,0,[],s.Args⟩:xtn) r2;simp only[k2,if_true,aj,Waa]at base
       by_cases k3:0<=r3
       case neg=>exact .inl ⟨(r3,i+1),by rw[base];simp[k3],next r3 (fun h=>(k3 h).elim),by simp only;omega⟩
       obtain⟨r4,al,an⟩:=yjc d fuel (by omega) (by omega) s.Body r3;simp only[k3,if_true,al,Waa]at base
       by_cases k4:0<=r4
       case neg=>exact .inl ⟨(r4,i+1),by rw[base];simp[k4],next r4 (fun h=>(k4 h).elim),by simp only;omega⟩
       obtain⟨r5,ao,aq⟩:=yjc d fuel (by omega) (by omega) s.Else r4;simp only[k4,if_true,ao,Waa]at base
       refine .inl ⟨(r5,i+1),base,next r5 (fun h0=>?_),by simp only;omega⟩
       have a1:=ae k1;have a2:=ai k2;have a3:=ak k3;have a4:=an k4;have a5:=aq h0
       rw[zd5]at a3;rw[zvk];simp only at a3;omega
      ·exact .inr ⟨left,by simp[zb7,h1,h2],fun h=>(h2 h).elim⟩
     ·exact .inr ⟨left,by simp[zb7,h1],fun h=>z8g (fun j U=>hI h j U (by omega))⟩) (l0,0) ⟨Waf _,fun _ j _ U=>by simp at U⟩
  exact⟨r,by rw[hr];rfl,hR⟩
theorem yfd (l:List xtp) (left:Int):∃r,zmz l 60 left=some r/\(0<=r->zgr l<=120):=yjc 60 1000000 (by omega) (by omega) l left
theorem ym8 (p:xtm):zeg p=some 0\/(zeg p=some 1/\∀t∈p.Tasks,zgr t.Body<=120):=by
 unfold zeg;split
 ·exact .inl rfl
 split
 ·exact .inl rfl
 obtain⟨r,hr,I⟩:=zmp (f:=zc3 p) (fun i=>i<=p.Tasks.length/\∀(j:Nat) (h:j<p.Tasks.length),j<i->zgr p.Tasks[j].Body<=120)
  (fun r=>r=.inl 0\/(r=.inr ()/\∀t∈p.Tasks,zgr t.Body<=120)) (fun i=>p.Tasks.length-i) (fun i ⟨hi,hI⟩=>by
    by_cases h1:i<p.Tasks.length
    ·by_cases h2:100<(p.Tasks[i].Budget.length:Int)
     ·exact .inr ⟨.inl 0,by simp[zc3,h1,h2],.inl rfl⟩
     ·obtain⟨r,hr,I⟩:=yfd p.Tasks[i].Body 2000
      have aa:¬(100<p.Tasks[i].Budget.length):=by omega
      by_cases h3:r<0
      ·exact .inr ⟨.inl 0,by simp[zc3,h1,h2,aa,hr,h3],.inl rfl⟩
      ·refine .inl ⟨i+1,by simp[zc3,h1,h2,aa,hr,h3],⟨h1,fun j U ad=>?_⟩,by omega⟩
       by_cases ab:j=i
       ·subst ab;exact I (by omega)
       ·exact hI j U (by omega)
    ·refine .inr ⟨.inr (),by simp[zc3,h1],.inr ⟨rfl,fun t ht=>?_⟩⟩
     obtain⟨j,U,rfl⟩:=Wbj ht
     exact hI j U (by omega)) 0 ⟨Waf _,fun j _ U=>by simp at U⟩
 rw[hr]
 rcases I with rfl|⟨rfl,I⟩
 ·exact .inl rfl
 ·exact .inr ⟨rfl,I⟩
def atOk (p:xtm) (op:Int) (name:Str):Bool:=
 if op=2\/op=3 then decide (0<=varN p name)else if op=4 then decide (0<=zio p name)else if op=21 then decide (0<=zou p name)else true
mutual
def zpi (p:xtm):xtn->Bool
 |⟨op,_,_,name,args⟩=>atOk p op name&&znx p args
def znx (p:xtm):List xtn->Bool
 |[]=>true
 |e::es=>zpi p e&&znx p es
end
def yik (p:xtm) (kind:Int) (name:Str):Bool:=
 if kind=4 then decide (0<=varN p name)else if kind=5 then decide (0<=zio p name)else true
mutual
def z8t (p:xtm):xtp->Bool
 |⟨kind,name,target,value,args,body,I⟩=>yik p kind name&&zpi p target&&zpi p value&&znx p args&&zn2 p body&&zn2 p I
def zn2 (p:xtm):List xtp->Bool
 |[]=>true
 |e::es=>z8t p e&&zn2 p es
end
theorem yby (p:xtm) (e:xtn):zpi p e=(atOk p e.Op e.Name&&znx p e.Args):=by cases e;rw[zpi]
theorem ydz (p:xtm) (s:xtp):z8t p s=(yik p s.Kind s.Name&&zpi p s.Target&&zpi p s.Value&&znx p s.Args&&zn2 p s.Body&&zn2 p s.Else):=by cases s;rw[z8t]
end Go.Lz

end
section
namespace Go.Lz
theorem zza (p:xtm):∀l:List xtn,znx p l=l.all (zpi p)
 |[]=>rfl
 |e::es=>by rw[znx,Wbi,zza p es]
theorem z1m (p:xtm):∀l:List xtp,zn2 p l=l.all (z8t p)
 |[]=>rfl
 |e::es=>by rw[zn2,Wbi,z1m p es]
theorem zxe (p:xtm) (l:List xtn) (n:Nat) (I:∀x∈l,(zau n).1 p x=some (zpi p x)):(zau (n+1)).2 p l=some (znx p l):=by
 show zeu (zau n).1 (zau n).2 p l=_
 unfold zeu
 rw[zsb (xs:=l) (p:=zpi p) (a:=.inl false) (b:=.inr ()) (fun i h=>by
  simp only[zgu,Waw,h,if_true,Wac h,Waa,I _ (Wap h)]
  split<;>rfl) (by simp[zgu]),zza]
 cases l.all (zpi p)<;>rfl
theorem zye (p:xtm):∀(n:Nat) (e:xtn),2*depE e<=n->(zau n).1 p e=some (zpi p e)
 |0,e,h=>by rw[zd5]at h;omega
 |1,e,h=>by rw[zd5]at h;omega
 |n+2,e,h=>by
  rw[zd5]at h
  have ha:=zxe p e.Args n fun x I=>zye p n x (by have:=zgs I;omega)
  show zfi (zau (n+1)).1 (zau (n+1)).2 p e=_
  unfold zfi;simp only[ha,zpc,zmo,zr1,Waa,yby,atOk]
  by_cases h2:e.Op=2
  ·by_cases hv:varN p e.Name<0
   ·simp[h2,hv,show¬0<=varN p e.Name by omega]
   ·simp[h2,hv,show 0<=varN p e.Name by omega]
  by_cases h3:e.Op=3
  ·by_cases hv:varN p e.Name<0
   ·simp[h3,hv,show¬0<=varN p e.Name by omega]
   ·simp[h3,hv,show 0<=varN p e.Name by omega]
  by_cases h4:e.Op=4
  ·by_cases hv:zio p e.Name<0
   ·simp[h4,hv,show¬0<=zio p e.Name by omega]
   ·simp[h4,hv,show 0<=zio p e.Name by omega]
  by_cases h5:e.Op=21
  ·by_cases hv:zou p e.Name<0
   ·simp[h5,hv,show¬0<=zou p e.Name by omega]
   ·simp[h5,hv,show 0<=zou p e.Name by omega]
  simp[h2,h3,h4,h5]
theorem yaq {p:xtm} {e:xtn} (h:depE e<=1000):zcu p e=some (zpi p e):=zye p 1000000 e (by omega)
theorem yd8 {p:xtm} {l:List xtn} (h:zol l<=1000):zgc p l=some (znx p l):=
 zxe p l 999999 fun x I=>zye p _ x (by have:=zgs I;omega)
theorem zws (p:xtm):∀(n:Nat) (l:List xtp),zgr l+1<=n->zgr l<=1000->zev n p l=some (zn2 p l)
 |0,l,h,_=>by omega
 |n+1,l,h,hd=>by
  show zew (zev n) p l=_
  unfold zew;rw[zsb (xs:=l) (p:=z8t p) (a:=.inl false) (b:=.inr ()) (fun i hi=>?_) (by simp[zgv]),z1m]
  ·cases l.all (z8t p)<;>rfl
  ·simp only[zgv,Waw,hi,if_true,Wac hi,Waa]
   have dx:=zod (Wap hi)
   generalize l[i]=x at dx
   rw[zvk]at dx;rw[zws p n x.Body (by omega) (by omega),zws p n x.Else (by omega) (by omega),yaq (e:=x.Target) (by omega),yaq (e:=x.Value) (by omega),yd8 (l:=x.Args) (by omega)];simp only[zpc,zmo,Waa,ydz,yik]
   generalize zpi p x.Target=I
   generalize zpi p x.Value=U
   generalize znx p x.Args=b3
   generalize zn2 p x.Body=b4
   generalize zn2 p x.Else=b5
   by_cases h4:x.Kind=4
   ·by_cases hv:varN p x.Name<0
    ·simp[h4,hv,show¬0<=varN p x.Name by omega]
    ·simp[h4,hv,show 0<=varN p x.Name by omega]
     cases I<;>cases U<;>cases b3<;>cases b4<;>cases b5<;>rfl
   by_cases h5:x.Kind=5
   ·by_cases hv:zio p x.Name<0
    ·simp[h5,hv,show¬0<=zio p x.Name by omega]
    ·simp[h5,hv,show 0<=zio p x.Name by omega]
     cases I<;>cases U<;>cases b3<;>cases b4<;>cases b5<;>rfl
   simp only[h4,h5,if_false];cases I<;>cases U<;>cases b3<;>cases b4<;>cases b5<;>rfl
theorem yd9 {p:xtm} {l:List xtp} (h:zgr l<=1000):zlk p l=some (zn2 p l):=zws p 1000000 l (by omega) h
theorem yaw {α:Type} {xs:List α} {g:α->Str} {f:List Str×Nat->Option ((List Str×Nat)⊕List Str)} (h:xs.length<=1000) (step:∀l i (h:i<xs.length),f (l,i)=need ((l.length+1)*16<=140737488355328) (some (.inl (l++[g xs[i]],i+1)))) (last:∀l,f (l,xs.length)=some (.inr l)) (l0:List Str) (h0:l0.length<=10000):
  Tot (loop f (l0,0)) fun r=>r.length<=l0.length+1000:=by
 refine Tot.loop (fun x=>x.2<=xs.length/\x.1.length<=l0.length+x.2) (fun x=>xs.length-x.2) ⟨Waf _,by simp⟩ fun⟨l,i⟩ ⟨hi,hI⟩=>?_;simp only at hi hI
 by_cases I:i<xs.length
 ·rw[step l i I]
  exact Tot.need (by omega) (Tot.mk ⟨⟨I,by simp only[Wai,Wby];omega⟩,by simp only;omega⟩)
 ·have:i=xs.length:=by omega
  subst this;exact⟨_,last l,show l.length<=_ by omega⟩
theorem ykc (p:xtm) (hv:p.Vars.length<=1000) (hb:p.Blocks.length<=1000) (hs:p.Sites.length<=1000) (hd:∀t∈p.Tasks,zgr t.Body<=1000):Tot (zgd p) fun r=>r=0->∀t∈p.Tasks,zn2 p t.Body=true:=by
 unfold zgd
 refine(yaw (g:=(·.Name)) hv (fun l i h=>by simp only[zgz,Waw,h,if_true,Wac h,Waa]) (fun l=>by simp[zgz]) [] (by simp)).bind fun l1 h1=>?_
 simp only[Wam]at h1
 refine(yaw (g:=(·.Name)) hb (fun l i h=>by simp only[zgy,Waw,h,if_true,Wac h,Waa]) (fun l=>by simp[zgy]) l1 (by omega)).bind fun l2 h2=>?_
 refine(yaw (g:=(·.Name)) hs (fun l i h=>by simp only[zgx,Waw,h,if_true,Wac h,Waa]) (fun l=>by simp[zgx]) l2 (by omega)).bind fun I h3=>?_
 refine Tot.bind (Tot.loop (fun i=>i<=I.length) (R:=fun r=>match r with|.inl r=>r=5|.inr ()=>True) (fun i=>I.length-i) (Waf _) fun i hi=>?_) fun r hr=>?_
 ·unfold zjt
  refine Tot.ite (fun h=>?_) fun _=>Tot.mk trivial
  have h':i<I.length:=by omega
  refine Tot.bind (Tot.loop (fun k=>k<=i) (R:=fun r=>match r with|.inl r=>r=5|.inr ()=>True) (fun k=>i-k) (Waf _) fun k hk=>?_) fun r hr=>?_
  ·unfold zjs
   refine Tot.ite (fun h=>?_) fun _=>Tot.mk trivial
   have aa:k<i:=by omega
   exact(Tot.get h').bind fun x _=>(Tot.get (by omega)).bind fun y _=>Tot.ite (fun _=>Tot.mk rfl) fun _=>Tot.mk ⟨aa,by simp only;omega⟩
  ·cases r with
   |inl r=>exact Tot.mk hr
   |inr r=>exact Tot.mk ⟨h',by simp only;omega⟩
 cases r with
 |inl r=>
  simp only at hr;subst hr
  exact Tot.mk fun h=>by cases h
 |inr r=>
  simp only
  rw[zsb (xs:=p.Tasks) (p:=fun t=>zn2 p t.Body) (a:=.inl 5) (b:=.inr ()) (fun i h=>by
   simp only[zgw,Waw,h,if_true,Wac h,Waa,yd9 (hd _ (Wap h))]
   split<;>rfl) (by simp[zgw])]
  cases U:p.Tasks.all fun t=>zn2 p t.Body with
  |true=>exact Tot.mk fun _=>Wak.1 U
  |false=>exact Tot.mk fun h=>by cases h
end Go.Lz

end
section
namespace Go.Lz
theorem z5v {α:Type} (l:List α) (q:α->Bool):(!l.all fun x=> !q x)=l.any q:=by
 induction l with
 |nil=>rfl
 |cons x xs I=>rw[Wbi,List.any_cons,<-I];cases q x<;>simp
mutual
def z8w (name:Str):xtp->Bool
 |⟨kind,U,target,_,_,body,I⟩=>(decide (kind=1)&&decide (target.Name=name))||(decide (kind=4)&&decide (U=name))||zw7 name body||zw7 name I
def zw7 (name:Str):List xtp->Bool
 |[]=>false
 |s::ss=>z8w name s||zw7 name ss
end
theorem yd3 (name:Str) (s:xtp):z8w name s=((decide (s.Kind=1)&&decide (s.Target.Name=name))||(decide (s.Kind=4)&&decide (s.Name=name))||zw7 name s.Body||zw7 name s.Else):=by cases s;rw[z8w]
theorem z3y (name:Str):∀l:List xtp,zw7 name l=l.any (z8w name)
 |[]=>rfl
 |e::es=>by rw[zw7,List.any_cons,z3y name es]
theorem z2k (name:Str):∀(n:Nat) (l:List xtp),zgr l+1<=n->zfg n l name=some (zw7 name l)
 |0,l,h=>by omega
 |n+1,l,h=>by
  show zfh (zfg n) l name=_
  unfold zfh;rw[zsb (xs:=l) (p:=fun x=> !z8w name x) (a:=.inl true) (b:=.inr ()) (fun i hi=>?_) (by simp[zh2]),z3y,<-z5v]
  ·cases l.all fun x=> !z8w name x<;>rfl
  ·simp only[zh2,Waw,hi,if_true,Wac hi,Waa]
   have dx:=zod (Wap hi)
   generalize l[i]=x at dx
   rw[zvk]at dx;rw[z2k name n x.Body (by omega),z2k name n x.Else (by omega),yd3];simp only[Waa]
   by_cases I:x.Kind=1
   ·by_cases t:x.Target.Name=name
    ·simp[I,t]
    ·simp[I,t];cases zw7 name x.Body<;>cases zw7 name x.Else<;>rfl
   by_cases U:x.Kind=4
   ·by_cases t:x.Name=name
    ·simp[U,t]
    ·simp[U,t];cases zw7 name x.Body<;>cases zw7 name x.Else<;>rfl
   simp[I,U];cases zw7 name x.Body<;>cases zw7 name x.Else<;>rfl
structure zpt (p:xtm):Prop where
 P:zlc p
 T:∀t∈p.Tasks,z9t p t
 d:∀t∈p.Tasks,zgr t.Body<=1000
end Go.Lz

end
section
namespace Go.Lz
theorem ya2 (s:Str):Tot (za5 s) fun l=>(∀k∈l,0<=k)/\l.length<=5:=by
 unfold za5
 repeat' (first|exact Tot.mk (by decide)|refine Tot.ite (fun _=>?_) (fun _=>?_))
theorem yi2 (s:Str):Tot (zdx s) fun l=>(∀k∈l,0<=k)/\l.length<=5:=by
 unfold zdx
 repeat' (first|exact Tot.mk (by decide)|refine Tot.ite (fun _=>?_) (fun _=>?_))
theorem z7h (op k:Int):Tot (zag op k) fun r=>0<=r:=by
 unfold zag;refine(z5c k).bind fun b hb=>Tot.ite (fun _=>Tot.mk (by omega)) fun h0=>?_
 have:=hb h0
 repeat' (first|exact Tot.mk (by omega)|refine Tot.ite (fun _=>?_) (fun _=>?_))
theorem yck {α:Type} {xs:List α} {p:α->Bool} (h:0<=zug xs p):Tot (idx xs (zug xs p)) fun x=>x∈xs/\p x=true:=by
 unfold zug at h|-
 cases hf:xs.findIdx? p with
 |none=>rw[hf]at h;simp only at h;omega
 |some i=>
  obtain⟨hi,I,_⟩:=Wci.1 hf;exact⟨xs[i],by simp only;rw[zqs];exact Wac hi,Wap hi,I⟩
theorem zyy {p:xtm} {name:Str} (h:¬varN p name<0):Tot (idx p.Vars (varN p name)) fun x=>x∈p.Vars:=(yck (by unfold varN at h;omega)).imp fun _ h=>h.1
theorem zzz {p:xtm} {name:Str} (h:¬zio p name<0):Tot (idx p.Blocks (zio p name)) fun x=>x∈p.Blocks:=(yck (by unfold zio at h;omega)).imp fun _ h=>h.1
theorem ygd {p:xtm} (P:zlc p):∀(n:Nat) (e:xtn),fmE e->depE e<=n->Tot (zao n p e) fun k=>0<=k
 |0,e,_,h=>by rw[zd5]at h;omega
 |n+1,e,ok,h=>by
  have F:=zxp ok
  rw[zzc]at ok;rw[zd5]at h
  have ops:=F.ops
  have sub:∀x∈e.Args,Tot (zao n p x) fun k=>0<=k:=fun x I=>ygd P n x (zlu ok.2 x I) (by have:=zgs I;omega)
  show Tot (zat (zao n) p e) _
  unfold zat;simp only[zpc,zmo,zr1,Waa];refine Tot.ite (fun h1=>Tot.mk (by omega)) fun h1=>Tot.ite (fun h2=>?_) fun h2=>Tot.ite (fun h3=>?_) fun h3=>Tot.ite (fun h4=>?_) fun h4=>Tot.ite (fun aa=>?_) fun aa=>?_
  ·refine Tot.ite (fun _=>Tot.mk (by omega)) fun hv=>(zyy hv).bind fun v hv=>?_
   have U:=(P.vars v hv).kind
   exact Tot.ite (fun _=>Tot.ite (fun _=>by omega) fun _=>Tot.mk (by omega)) fun _=>Tot.mk (by omega)
  ·refine Tot.ite (fun _=>Tot.mk (by omega)) fun hv=>(zyy hv).bind fun v hv=>?_
   have U:=(P.vars v hv).kind
   exact Tot.ite (fun _=>(Tot.get (by omega)).bind fun x I=>(sub x I.1).bind fun k _=>Tot.ite (fun _=>Tot.mk (by omega)) fun _=>Tot.mk (by omega)) fun _=>Tot.mk (by omega)
  ·exact Tot.ite (fun _=>Tot.mk (by omega)) fun hv=>(zzz hv).bind fun v hv=>(ya2 _).bind fun l hl=>Tot.ite (fun _=>Tot.mk (by omega)) fun a=>Tot.ite (fun _=>Tot.mk (by omega)) fun b=>(Tot.idx (by omega) (by omega)).bind fun x I=>Tot.mk (hl.1 x I)
  ·exact Tot.ite (fun _=>Tot.mk (by omega)) fun _=>(Tot.get (by omega)).bind fun x I=>(sub x I.1).bind fun k U=>Tot.mk U
  ·exact(Tot.get (by omega)).bind fun x I=>(sub x I.1).bind fun k U=>Tot.ite (fun h=>(Tot.get (by omega)).bind fun y hy=>(sub y hy.1).bind fun m _=>Tot.ite (fun _=>(z7h _ _).bind fun r hr=>Tot.mk hr) fun _=>Tot.mk (by omega)) fun _=>(z7h _ _).bind fun r hr=>Tot.mk hr
noncomputable def zf5 (p:xtm) (e:xtn):Int:=(zaj p e).getD 0
theorem yiw {p:xtm} (P:zlc p) {e:xtn} (ok:fmE e) (h:depE e<=1000):zaj p e=some (zf5 p e)/\0<=zf5 p e:=by
 obtain⟨k,h2,h0⟩:=ygd P 1000000 e ok (by omega)
 have I:zaj p e=some k:=h2
 have U:zf5 p e=k:=by unfold zf5;rw[I];rfl
 exact⟨by rw[U];exact I,by rw[U];exact h0⟩
theorem zpj {p:xtm} (P:zlc p) {e:xtn} (g:GoodE e):zaj p e=some (zf5 p e)/\0<=zf5 p e:=yiw P g.ok (by have:=g.dep;omega)
theorem z56 {p:xtm} (P:zlc p) {e:xtn} (g:GoodE e):Tot (zaj p e) fun k=>0<=k:=⟨_,(zpj P g).1,(zpj P g).2⟩
theorem yll {name:Str} {l:List xtp} (h:zgr l<=1000):Tot (zhl l name) fun _=>True:=⟨_,z2k name 1000000 l (by omega),trivial⟩
theorem ymj {p:xtm} (P:zlc p) {s:xtp} (F:z5f s) (k4:s.Kind=4) (hd:zgr s.Body<=1000):Tot (zhm p s) fun _=>True:=by
 have hl:s.Args.length=2:=by have:=F.kinds;omega
 unfold zhm;simp only[zpc,Waa]
 have key:∀k:Int,Tot ((s.Args[0]?).bind fun I=>(zaj p I).bind fun U=>if U=k then((s.Args[1]?).bind fun aa=>(zaj p aa).bind fun ab=>if ab=k then((zhl s.Body s.Name).bind fun ad=>some (!ad))else(some false))else(some false)) fun _=>True:=fun k=>
  (Tot.get (by omega)).bind fun x hx=>(z56 P (F.args x hx.1)).bind fun _ _=>Tot.ite (fun _=>(Tot.get (by omega)).bind fun y hy=>(z56 P (F.args y hy.1)).bind fun _ _=>Tot.ite (fun _=>(yll hd).bind fun _ _=>Tot.mk trivial) fun _=>Tot.mk trivial) fun _=>Tot.mk trivial
 exact Tot.ite (fun _=>Tot.mk trivial) fun hv=>(zyy hv).bind fun v _=>Tot.ite (fun _=>Tot.ite (fun _=>Tot.ite (fun _=>key _) fun _=>Tot.ite (fun _=>key _) fun _=>Tot.mk trivial) fun _=>Tot.mk trivial) fun _=>Tot.mk trivial
theorem yos {p:xtm} (P:zlc p) {s:xtp} (F:z5f s):Tot (zhn p s) fun _=>True:=by
 unfold zhn;simp only[zmo,Waa];refine Tot.ite (fun _=>Tot.mk trivial) fun hb=>(zzz hb).bind fun b _=>(yi2 _).bind fun l _=>Tot.ite (fun e=>?_) fun _=>Tot.mk trivial
 refine Tot.bind (Tot.loop (fun i=>i<=l.length) (R:=fun _=>True) (fun i=>l.length-i) (Waf _) fun i hi=>?_) fun r _=>by cases r<;>exact Tot.mk trivial
 unfold zkd;exact Tot.ite (fun h=>(Tot.get (by omega)).bind fun x I=>(z56 P (F.args x I.1)).bind fun _ _=>(Tot.get (by omega)).bind fun _ _=>Tot.ite (fun _=>Tot.mk ⟨by omega,by simp only;omega⟩) fun _=>Tot.mk trivial) fun _=>Tot.mk trivial
theorem ymc {p:xtm} (P:zlc p) {s:xtp} (F:z5f s) (hd:zgr s.Body<=1000):Tot (zfy p s) fun _=>True:=by
 have K:=F.kinds
 unfold zfy;simp only[zpc,Waa];refine Tot.ite (fun k=>?_) fun k1=>?_
 ·have U:GoodE s.Target/\GoodE s.Value:=by
   rcases K with h|h|h|h
   ·exact⟨h.2.2.2.2.1,h.2.2.2.2.2.2⟩
   all_goals omega
  exact(z56 P U.1).bind fun _ _=>Tot.ite (fun h=>(zyy (by omega)).bind fun _ _=>Tot.ite (fun _=>Tot.mk trivial) fun _=>Tot.ite (fun _=>Tot.mk trivial) fun _=>(z56 P U.2).bind fun _ _=>Tot.mk trivial) fun _=>Tot.mk trivial
 have I:(s.Kind=2\/s.Kind=3)->GoodE s.Value:=fun k=>by
  rcases K with h|h|h|h
  ·omega
  ·exact h.2.2.2
  all_goals omega
 exact Tot.ite (fun k=>(z56 P (I (.inl k))).bind fun _ _=>Tot.mk trivial) fun _=>Tot.ite (fun k=>(z56 P (I (.inr k))).bind fun _ _=>Tot.mk trivial) fun _=>Tot.ite (fun k=>(ymj P F k hd).bind fun _ _=>Tot.mk trivial) fun _=>(yos P F).bind fun _ _=>Tot.mk trivial
theorem z2h {p:xtm} (P:zlc p):∀(n:Nat) (l:List xtp),fmSs l->zgr l<=1000->zgr l+1<=n->Tot (zdj n p l) fun _=>True
 |0,l,_,_,h=>by omega
 |n+1,l,ok,hd,h=>by
  show Tot (zcj (zdj n) p l) _
  unfold zcj
  refine Tot.bind (Tot.loop (fun i=>i<=l.length) (R:=fun _=>True) (fun i=>l.length-i) (Waf _) fun i hi=>?_) fun r _=>by cases r<;>exact Tot.mk trivial
  unfold zgt;refine Tot.ite (fun h'=>(Tot.get (by omega)).bind fun x U=>?_) fun _=>Tot.mk trivial
  have I:=zxo ok x U.1
  have dx:=zod U.1
  have F:=zzx I
  rw[z41]at I;rw[zvk]at dx;refine(ymc P F (by omega)).bind fun _ _=>Tot.ite (fun _=>?_) fun _=>Tot.mk trivial;refine(z2h P n x.Body I.2.1 (by omega) (by omega)).bind fun _ _=>Tot.ite (fun _=>?_) fun _=>Tot.mk trivial;exact(z2h P n x.Else I.2.2 (by omega) (by omega)).bind fun _ _=>Tot.ite (fun _=>Tot.mk ⟨by omega,by simp only;omega⟩) fun _=>Tot.mk trivial
theorem ykb {p:xtm} (G:zpt p):Tot (zbg p) fun _=>True:=by
 have P:=G.P
 unfold zbg;refine Tot.bind (Tot.loop (fun i=>i<=p.Vars.length) (R:=fun _=>True) (fun i=>p.Vars.length-i) (Waf _) fun i hi=>?_) fun r _=>?_
 ·unfold zd9
  refine Tot.ite (fun U=>(Tot.get (by omega)).bind fun x I=>(z92 _).bind fun _ _=>Tot.ite (fun _=>Tot.ite (fun _=>(zya _ _).bind fun _ _=>Tot.ite (fun _=>Tot.mk ⟨by omega,by simp only;omega⟩) fun _=>Tot.mk trivial) fun _=>Tot.ite (fun _=>(zya _ _).bind fun _ _=>Tot.ite (fun _=>Tot.mk ⟨by omega,by simp only;omega⟩) fun _=>Tot.mk trivial) fun _=>Tot.mk trivial) fun _=>Tot.mk trivial) fun _=>Tot.mk trivial
 cases r with
 |inl r=>exact Tot.mk trivial
 |inr r=>
  refine Tot.bind (Tot.loop (fun i=>i<=p.Blocks.length) (R:=fun _=>True) (fun i=>p.Blocks.length-i) (Waf _) fun i hi=>?_) fun r _=>?_
  ·unfold zd8
   exact Tot.ite (fun U=>(Tot.get (by omega)).bind fun x I=>(yi2 _).bind fun _ _=>Tot.ite (fun _=>Tot.mk trivial) fun _=>Tot.mk ⟨by omega,by simp only;omega⟩) fun _=>Tot.mk trivial
  cases r with
  |inl r=>exact Tot.mk trivial
  |inr r=>
   refine Tot.bind (Tot.loop (fun i=>i<=p.Tasks.length) (R:=fun _=>True) (fun i=>p.Tasks.length-i) (Waf _) fun i hi=>?_) fun r _=>by cases r<;>exact Tot.mk trivial
   unfold zd7;exact Tot.ite (fun U=>(Tot.get (by omega)).bind fun x I=>(z2h P 1000000 x.Body (G.T x I.1).ok (G.d x I.1) (by have:=G.d x I.1;omega)).bind fun _ _=>Tot.ite (fun _=>Tot.mk ⟨by omega,by simp only;omega⟩) fun _=>Tot.mk trivial) fun _=>Tot.mk trivial
end Go.Lz

end
section
namespace Go.Lz
theorem yr9 {s:List xtv} {f:xtv->Option Bool} {p:xtv->Bool} (h:∀x∈s,f x=some (p x)):zcr s f=some (zug s p):=
 znm (fun i hi=>by simp[zb8,hi,h _ (Wap hi)];cases p s[i]<;>rfl) (by simp[zb8])
theorem yiz {s:List xt1} {f:xt1->Option Bool} {p:xt1->Bool} (h:∀x∈s,f x=some (p x)):zb5 s f=some (zug s p):=
 znm (fun i hi=>by simp[zbx,hi,h _ (Wap hi)];cases p s[i]<;>rfl) (by simp[zbx])
theorem ymw {s:List xt2} {f:xt2->Option Bool} {p:xt2->Bool} (h:∀x∈s,f x=some (p x)):zce s f=some (zug s p):=
 znm (fun i hi=>by simp[zb0,hi,h _ (Wap hi)];cases p s[i]<;>rfl) (by simp[zb0])
theorem zvw (p:xtm) (name:Str):zlo p name=some (varN p name):=by
 unfold zlo zkm;rw[yr9 (f:=zi2 zr6 name) (p:=fun v=>decide (v.Name=name)) (fun x _=>rfl)];rfl
theorem zyg (p:xtm) (name:Str):zly p name=some (zio p name):=by
 unfold zly zi3;rw[yiz (f:=zh1 zow name) (p:=fun v=>decide (v.Name=name)) (fun x _=>rfl)];rfl
theorem z0k (p:xtm) (name:Str):znk p name=some (zou p name):=by
 unfold znk zjf;rw[ymw (f:=zir zp2 name) (p:=fun v=>decide (v.Name=name)) (fun x _=>rfl)];rfl
end Go.Lz

end
section
namespace Go.Lz
theorem yil (s:Str):zn0 s=za5 s:=rfl
theorem ykl (k:Int):ze5 k=zba k:=rfl
theorem z7g (op k:Int):∃r,0<=r/\(k=0->r=0)/\zj2 op k=some r/\zag op k=some r:=by
 unfold zj2 zag;rw[ykl];obtain⟨b,hb,I⟩:=z5c k;rw[hb,Waa,Waa]
 by_cases h0:b=0
 ·exact⟨0,by omega,fun _=>rfl,by rw[if_pos h0],by rw[if_pos h0]⟩
 rw[if_neg h0,if_neg h0]
 have I:=I h0
 have num:∃r,0<=r/\(k=0->r=0)/\(if k=1 then some (0:Int)else some k)=some r:=by
  by_cases h:k=1
  ·exact⟨0,by omega,fun _=>rfl,by rw[if_pos h]⟩
  ·exact⟨k,by omega,fun h=>h,by rw[if_neg h]⟩
 have bit:∃r,0<=r/\(k=0->r=0)/\(if k=4 then some (0:Int)else some k)=some r:=by
  by_cases h:k=4
  ·exact⟨0,by omega,fun _=>rfl,by rw[if_pos h]⟩
  ·exact⟨k,by omega,fun h=>h,by rw[if_neg h]⟩
 have ord:∃r,0<=r/\(k=0->r=0)/\(if k=1 then some (0:Int)else some 1)=some r:=by
  by_cases h:k=1
  ·exact⟨0,by omega,fun _=>rfl,by rw[if_pos h]⟩
  ·exact⟨1,by omega,fun h=>by omega,by rw[if_neg h]⟩
 obtain⟨rn,n0,n1,hn⟩:=num;obtain⟨rb,b0,b1,U⟩:=bit;obtain⟨ro,o0,o1,ho⟩:=ord;rw[hn,U,ho]
 by_cases c1:op=5\/(7<=op/\op<=11)
 ·refine⟨rn,n0,n1,?_,?_⟩
  ·rcases c1 with h|⟨h,h'⟩
   ·simp[h]
   ·have:op=7\/op=8\/op=9\/op=10\/op=11:=by omega
    rcases this with h|h|h|h|h<;>simp[h]
  ·rcases c1 with h|⟨h,h'⟩
   ·simp[h]
   ·by_cases h5:op=5
    ·omega
    ·rw[if_neg h5,if_pos h,if_pos h']
 by_cases c2:op=6\/(18<=op/\op<=20)
 ·refine⟨rb,b0,b1,?_,?_⟩
  ·have:op=6\/op=18\/op=19\/op=20:=by omega
   rcases this with h|h|h|h<;>simp[h]
  ·have:op=6\/op=18\/op=19\/op=20:=by omega
   rcases this with h|h|h|h<;>simp[h]
 by_cases c3:op=12\/op=13
 ·refine⟨1,by omega,fun h=>by omega,?_,?_⟩<;>rcases c3 with h|h<;>simp[h]
 by_cases c4:14<=op/\op<=17
 ·refine⟨ro,o0,o1,?_,?_⟩
  ·have:op=14\/op=15\/op=16\/op=17:=by omega
   rcases this with h|h|h|h<;>simp[h]
  ·have:op=14\/op=15\/op=16\/op=17:=by omega
   rcases this with h|h|h|h<;>simp[h]
 refine⟨0,by omega,fun _=>rfl,?_,?_⟩
 ·rw[if_neg (by omega),if_neg (by omega),if_neg (by omega),if_neg (by omega),if_neg (by omega),if_neg (by omega),if_neg (by omega),if_neg (by omega),if_neg (by omega),if_neg (by omega),if_neg (by omega),if_neg (by omega),if_neg (by omega),if_neg (by omega),if_neg (by omega),if_neg (by omega)]
 ·repeat' (first|rfl|rw[if_neg (by omega)]|(split<;>first|omega|skip))
def Two {α:Type} (x y:Option α) (Q:α->Prop):Prop:=∃r,x=some r/\y=some r/\Q r
section
variable {α β:Type} {x y:Option α} {Q:α->Prop} {f g:α->Option β} {R:β->Prop}
theorem Two.bind (h:Two x y Q) (k:∀a,Q a->Two (f a) (g a) R):Two (x.bind f) (y.bind g) R:=by
 obtain⟨a,rfl,rfl,hq⟩:=h;exact k a hq
theorem Two.ite {c:Prop} [Decidable c] {I U:Option α} (a:c->Two x y Q) (b:¬c->Two I U Q):Two (if c then x else I) (if c then y else U) Q:=by
 by_cases h:c
 ·rw[if_pos h,if_pos h];exact a h
 ·rw[if_neg h,if_neg h];exact b h
theorem Two.mk {a:α} (h:Q a):Two (some a) (some a) Q:=⟨a,rfl,rfl,h⟩
theorem Two.same (h:Tot x Q):Two x x Q:=by
 obtain⟨a,rfl,hq⟩:=h;exact⟨a,rfl,rfl,hq⟩
theorem Two.imp {I:α->Prop} (h:Two x y Q) (k:∀a,Q a->I a):Two x y I:=by
 obtain⟨a,U,e2,hq⟩:=h;exact⟨a,U,e2,k a hq⟩
end
theorem z1o (op k:Int):Two (zj2 op k) (zag op k) fun r=>0<=r:=by
 obtain⟨r,h0,_,h1,h2⟩:=z7g op k;exact⟨r,h1,h2,h0⟩
theorem ygq (l:List Int) (f:Int->Option Bool) (q:Int->Bool) (h:∀x∈l,f x=some (q x)):zct l f=some (l.any q):=by
 have I:zft l f=some (zug l q):=znm (fun i hi=>by simp[zd6,hi,h _ (Wap hi)];cases q l[i]<;>rfl) (by simp[zd6])
 unfold zct;rw[I,Waa,ykn]
theorem yb1 {R:xtm->xtn->Option Int} {p:xtm} {e:xtn} (h:e.Args.length=0):loop (zds R p e) (List.replicate e.Args.length 0,0)=some []:=by
 rw[zcs (r:=[]) (by simp[zds,h])]
theorem yb0 {R:xtm->xtn->Option Int} {p:xtm} {e a:xtn} {k:Int} (h:e.Args=[a]) (I:R p a=some k):loop (zds R p e) (List.replicate e.Args.length 0,0)=some [k]:=by
 rw[zkn (s':=([k],1)) (by simp[zds,h,I]),zcs (r:=[k]) (by simp[zds,h])]
theorem ybz {R:xtm->xtn->Option Int} {p:xtm} {e a b:xtn} {k m:Int} (h:e.Args=[a,b]) (I:R p a=some k) (hm:R p b=some m):loop (zds R p e) (List.replicate e.Args.length 0,0)=some [k,m]:=by
 rw[zkn (s':=([k,0],1)) (by simp[zds,h,I]),zkn (s':=([k,m],2)) (by simp[zds,h,hm]),zcs (r:=[k,m]) (by simp[zds,h])]
theorem yei {l:List xtn} (h:l.length=1):∃a,l=[a]:=by
 match l,h with
 |[a],_=>exact⟨a,rfl⟩
theorem ye0 {p:xtm} (P:zlc p):∀(n:Nat) (e:xtn),fmE e->depE e<=n->Two (zmj n p e) (zao n p e) fun k=>0<=k
 |0,e,_,h=>by rw[zd5]at h;omega
 |n+1,e,ok,h=>by
  have F:=zxp ok
  rw[zzc]at ok;rw[zd5]at h
  have ops:=F.ops
  show Two (zmk (zmj n) p e) (zat (zao n) p e) _
  unfold zmk zat
  have hn:(0:Int)<=(e.Args.length:Int)/\8*(e.Args.length:Int)<=140737488355328:=by omega
  rw[zc9 hn]
  by_cases h0:e.Args.length=0
  ·rw[yb1 h0,Waa]
   refine Two.ite (fun _=>Two.mk (by omega)) fun h1=>Two.ite (fun h2=>?_) fun h2=>?_
   ·simp only[zvw,zpc,Waa]
    refine Two.ite (fun _=>Two.mk (by omega)) fun hv=>(Two.same (zyy hv)).bind fun v hv=>?_
    have hk:=(P.vars v hv).kind
    exact Two.ite (fun _=>Two.ite (fun _=>by omega) fun _=>Two.mk (by omega)) fun _=>Two.mk (by omega)
   rw[if_neg (by omega),if_neg (show¬e.Op=3 by omega)]
   refine Two.ite (fun h4=>?_) fun h4=>by omega
   simp only[zyg,zmo,Waa];refine Two.ite (fun _=>Two.mk (by omega)) fun hv=>(Two.same (zzz hv)).bind fun v hv=>?_;rw[yil];refine(Two.same (ya2 v.Kind)).bind fun l hl=>?_
   by_cases a:0<=e.N
   ·rw[if_pos a,if_neg (show¬e.N<0 by omega)]
    by_cases b:e.N<(l.length:Int)
    ·rw[if_pos b,if_neg (by omega)]
     exact(Two.same (Tot.idx a b)).bind fun x hx=>Two.mk (hl.1 x hx)
    ·rw[if_neg b,if_pos (by omega)];exact Two.mk (by omega)
   ·rw[if_neg a,if_pos (by omega)];exact Two.mk (by omega)
  by_cases h1:e.Args.length=1
  ·obtain⟨x,hx⟩:=yei h1
   have aa:fmE x:=zlu ok.2 x (by rw[hx];simp)
   have dx:depE x<=n:=by rw[hx]at h;simp only[zol]at h;omega
   obtain⟨k,k1,k2,k0⟩:=ye0 P n x aa dx;rw[yb0 hx k1,Waa];rw[hx];simp only[Wat,Waa,k2,Waj,Wam];rw[if_neg (show¬e.Op=1 by omega),if_neg (show¬e.Op=1 by omega),if_neg (show¬e.Op=2 by omega),if_neg (show¬e.Op=2 by omega)];refine Two.ite (fun h3=>?_) fun h3=>?_
   ·simp only[zvw,zpc,Waa]
    refine Two.ite (fun _=>Two.mk (by omega)) fun hv=>(Two.same (zyy hv)).bind fun v hv=>?_
    have hk:=(P.vars v hv).kind
    refine Two.ite (fun _=>?_) fun _=>Two.mk (by omega);rw[if_pos (by omega)];exact Two.ite (fun _=>Two.mk (by omega)) fun _=>Two.mk (by omega)
   rw[if_neg (show¬e.Op=4 by omega),if_neg (show¬e.Op=4 by omega)];refine Two.ite (fun h4=>?_) fun h4=>?_
   ·simp only[z0k,zr1,Waa]
    by_cases hs:zou p e.Name<0
    ·rw[if_neg (by omega),if_pos hs];exact Two.mk (by omega)
    ·rw[if_pos (by omega),if_neg hs,if_pos (by omega)];exact Two.mk k0
   rw[if_pos (by omega),if_neg (by omega),ygq [k] _ (fun x=> !decide (x=k)) (fun x _=>by simp[zml]),Waa];rw[if_neg (by simp)];exact(z1o e.Op k).bind fun r hr=>Two.mk hr
  ·have h2:e.Args.length=2:=by omega
   obtain⟨x,y,I⟩:=z2b h2
   have aa:fmE x:=zlu ok.2 x (by rw[I];simp)
   have ab:fmE y:=zlu ok.2 y (by rw[I];simp)
   rw[I]at h;simp only[zol]at h;obtain⟨k,k1,k2,k0⟩:=ye0 P n x aa (by omega);obtain⟨m,m1,m2,m0⟩:=ye0 P n y ab (by omega);rw[ybz I k1 m1,Waa];rw[I];simp only[Wat,WaK,Waa,k2,m2,Waj,Wam];rw[if_neg (show¬e.Op=1 by omega),if_neg (show¬e.Op=1 by omega),if_neg (show¬e.Op=2 by omega),if_neg (show¬e.Op=2 by omega),if_neg (show¬e.Op=3 by omega),if_neg (show¬e.Op=3 by omega),if_neg (show¬e.Op=4 by omega),if_neg (show¬e.Op=4 by omega),if_neg (show¬e.Op=21 by omega),if_neg (show¬e.Op=21 by omega)]
   rw[if_pos (by omega),if_pos (by omega),ygq [k,m] _ (fun x=> !decide (x=k)) (fun x _=>by simp[zml]),Waa]
   by_cases U:m=k
   ·rw[if_neg (by simp[U]),if_pos U]
    exact(z1o e.Op k).bind fun r hr=>Two.mk hr
   ·rw[if_pos (by simp[U]),if_neg U];exact Two.mk (by omega)
theorem z1j {p:xtm} (P:zlc p) {e:xtn} (ok:fmE e) (h:depE e<=1000):zkq p e=some (zf5 p e, !decide (zf5 p e=0)):=by
 obtain⟨k,h1,h2,h0⟩:=ye0 P 1000000 e ok (by omega)
 have I:zwo p e=some k:=h1
 have U:zaj p e=some k:=h2
 have e1:zf5 p e=k:=by unfold zf5;rw[U];rfl
 unfold zkq;rw[I,Waa,e1]
end Go.Lz

end
section
namespace Go.Lz
theorem ygv {a b:List Int} (h:a.length=b.length):(a.zip b).all (fun p=>decide (p.1=p.2))=decide (a=b):=by
 induction a generalizing b with
 |nil=>cases b with
  |nil=>rfl
  |cons y b=>simp at h
 |cons x a I=>cases b with
  |nil=>simp at h
  |cons y b=>
   rw[List.zip_cons_cons,Wbi,I (by simpa using h),Wa1];simp
theorem ygg (a b:List Int):zbl a b=some (decide (a=b)):=by
 unfold zbl
 by_cases h:a.length=b.length
 ·have I:(a.zip b).length=a.length:=by simp[h]
  rw[if_pos (by omega),zsb (xs:=a.zip b) (p:=fun p=>decide (p.1=p.2)) (a:=.inl false) (b:=.inr ()) (fun i hi=>by
   have h1:i<a.length:=by omega
   have h2:i<b.length:=by omega
   by_cases e:a[i]=b[i]<;>simp[zdn,h1,h2,e]) (by simp[zdn,I,h]),ygv h]
  by_cases e:a=b<;>simp[e]
 ·rw[if_neg (by omega)]
  have:a≠b:=fun e=>h (by rw[e])
  simp[this]
def tOk (t:xt3):Prop:=(1<=t.Kind/\t.Kind<=4)/\0<=t.Len/\t.Len<=32/\-32768<=t.Low/\t.Low<=32767/\(t.Len=0->t.Low=0)
instance (t:xt3):Decidable (tOk t):=by unfold tOk;exact inferInstance
theorem ye6 (k:Int):ze5 k=some (if k=1 then 1 else if k=2 then 16 else if k=3 then 32 else if k=4 then 32 else 0):=by
 unfold ze5;repeat' split
 all_goals rfl
theorem yau (k:Int):zba k=some (if k=1 then 1 else if k=2 then 16 else if k=3 then 32 else if k=4 then 32 else 0):=by
 unfold zba;repeat' split
 all_goals rfl
theorem z10 (t:xt3):zns t=some (if tOk t then 0 else 6):=by
 have hb:(if t.Kind=1 then(1:Int)else if t.Kind=2 then 16 else if t.Kind=3 then 32 else if t.Kind=4 then 32 else 0)=0↔¬(1<=t.Kind/\t.Kind<=4):=by
  repeat' split
  all_goals omega
 unfold zns;simp only[ye6,Waa]
 generalize (if t.Kind=1 then(1:Int)else if t.Kind=2 then 16 else if t.Kind=3 then 32 else if t.Kind=4 then 32 else 0)=b at hb|-
 by_cases h:tOk t
 ·unfold tOk at h
  rw[if_pos (show tOk t from h)]
  repeat' split
  all_goals first|rfl|(exfalso;omega)
 ·rw[if_neg h]
  unfold tOk at h
  repeat' split
  all_goals first|rfl|(exfalso;omega)
theorem z1r (t:xt3):zbr t=some (if tOk t then 0 else 6):=by
 have hb:(if t.Kind=1 then(1:Int)else if t.Kind=2 then 16 else if t.Kind=3 then 32 else if t.Kind=4 then 32 else 0)=0↔¬(1<=t.Kind/\t.Kind<=4):=by
  repeat' split
  all_goals omega
 unfold zbr;simp only[yau,Waa]
 generalize (if t.Kind=1 then(1:Int)else if t.Kind=2 then 16 else if t.Kind=3 then 32 else if t.Kind=4 then 32 else 0)=b at hb|-
 by_cases h:tOk t
 ·unfold tOk at h
  rw[if_pos (show tOk t from h)]
  repeat' split
  all_goals first|rfl|(exfalso;omega)
 ·rw[if_neg h]
  unfold tOk at h
  repeat' split
  all_goals first|rfl|(exfalso;omega)
def zwq (t:xt3):Nat:=if tOk t then max t.Len.toNat 1 else 0
theorem yc3 (t:xt3):zru t=some (zwq t:Int):=by
 unfold zru zwq;rw[z10,Waa]
 by_cases h:tOk t
 ·have:=h.2.1
  simp only[h,if_true];congr 1;simp only[maxI];repeat' split
  all_goals omega
 ·simp[h]
theorem yar (t:xt3):ze7 t=some (zwq t:Int):=by
 unfold ze7 zwq;rw[z1r,Waa]
 by_cases h:tOk t
 ·have:=h.2.1
  simp only[h,if_true];congr 1;simp only[maxI];repeat' split
  all_goals omega
 ·simp[h]
theorem yd2 (t:xt3):zwq t<=32:=by
 unfold zwq;split
 ·rename_i h;have:=h.2.2.1;have:=h.2.1;omega
 ·omega
end Go.Lz

end
section
namespace Go.Lz
def zpd (t:xt3) (n:Nat) (i:Int):Option Nat:=
 if tOk t/\n=zwq t then(if t.Len=0 then some 0 else if t.Low<=i/\i<t.Low+t.Len then some (i-t.Low).toNat else none)else none
theorem z7p {t:xt3} {n:Nat} {i:Int} {k:Nat} (h:zpd t n i=some k):k<n:=by
 unfold zpd at h;split at h
 ·rename_i h0
  obtain⟨h1,h2⟩:=h0
  have h3:=h1.2.1
  have h4:zwq t=max t.Len.toNat 1:=by simp[zwq,h1]
  split at h
  ·cases h;omega
  ·split at h
   ·cases h;omega
   ·cases h
 ·cases h
theorem z9q {t:xt3} {l:List Int} {i:Int}:∃k b,zpr t l i=some (k,b)/\(b=true->zpd t l.length i=some k.toNat/\0<=k)/\(b=false->zpd t l.length i=none):=by
 unfold zpr;rw[z10,yc3];simp only[Waa]
 by_cases h:tOk t
 case neg=>exact⟨0,false,by simp[h],by simp,fun _=>by simp[zpd,h]⟩
 by_cases h2:l.length=zwq t
 case neg=>exact⟨0,false,by simp only[h,if_true];rw[if_neg (by omega)],by simp,fun _=>by simp[zpd,h2]⟩
 have a1:=h.2.1;have a2:=h.2.2.1;have a3:=h.2.2.2.1;have U:=h.2.2.2.2.1
 by_cases h3:t.Len=0
 ·exact⟨0,true,by simp[h,h2,h3],fun _=>⟨by simp[zpd,h,h2,h3],by omega⟩,by simp⟩
 by_cases h4:t.Low<=i
 ·have e:w64 (t.Low+t.Len)=t.Low+t.Len:=zhd (by omega) (by omega)
  by_cases h5:i<t.Low+t.Len
  ·have I:w64 (i-t.Low)=i-t.Low:=zhd (by omega) (by omega)
   exact⟨i-t.Low,true,by simp[h,h2,h3,h4,e,I,h5],fun _=>⟨by simp[zpd,h,h2,h3,h4,h5],by omega⟩,by simp⟩
  ·exact⟨w64 (i-t.Low),false,by simp[h,h2,h3,h4,e,h5],by simp,fun _=>by simp[zpd,h,h2,h3,h5]⟩
 ·exact⟨w64 (i-t.Low),false,by simp[h,h2,h3,h4],by simp,fun _=>by simp[zpd,h,h2,h3,h4]⟩
def getN (t:xt3) (l:List Int) (i:Int):Int×Int:=match zpd t l.length i with|some k=>(l.getD k 0,0)|none=>(0,2)
theorem z8k (t:xt3) (l:List Int) (i:Int):zrv t l i=some (getN t l i):=by
 unfold zrv getN;obtain⟨k,b,e,h1,h2⟩:= @z9q t l i;rw[e,Waa]
 cases b with
 |false=>rw[h2 rfl];simp
 |true=>
  obtain⟨h3,h4⟩:=h1 rfl
  have:=z7p h3
  rw[h3];simp[idx,h4,this,List.getD_eq_getElem?_getD]
def okV (k n:Int):Prop:=(k=1/\(n=0\/n=1))\/(k=2/\-32768<=n/\n<32768)\/((k=3\/k=4)/\-2147483648<=n/\n<2147483648)
def isK (k:Int):Prop:=k=1\/k=2\/k=3\/k=4
theorem z91 {k n:Int} (h:zbs k n=some true):okV k n:=by
 unfold zbs zba zbm at h
 by_cases U:k=1
 ·subst U
  by_cases h0:n=0
  ·exact .inl ⟨rfl,.inl h0⟩
  ·simp[h0]at h;exact .inl ⟨rfl,.inr h⟩
 by_cases k2:k=2
 ·subst k2
  simp[zn1]at h
  by_cases h0:-32768<=n
  ·simp[h0]at h;exact .inr (.inl ⟨rfl,h0,h⟩)
  ·simp[h0]at h
 by_cases I:k=3\/k=4
 ·refine .inr (.inr ⟨I,?_⟩)
  by_cases h0:-2147483648<=n
  ·rcases I with rfl|rfl<;>simp[zn1,h0]at h<;>exact⟨h0,h⟩
  ·rcases I with rfl|rfl<;>simp[zn1,h0]at h
 ·have a3:¬k=3:=fun h=>I (.inl h)
  have a4:¬k=4:=fun h=>I (.inr h)
  simp[U,k2,a3,a4]at h
theorem yej {k:Int} (h:isK k):okV k 0:=by unfold okV;unfold isK at h;omega
theorem zr3 {k:Int} (h:isK k) (n:Int):okV k (zmi k n):=by
 rcases h with rfl|rfl|rfl|rfl
 ·rw[z9w];split<;>simp[okV]
 ·rw[z6z];unfold okV;omega
 ·rw[z6y];unfold okV;omega
 ·rw[z6x];unfold okV;omega
theorem zwr {op k r:Int} (h:zag op k=some r) (h0:r≠0):isK k/\(((op=5\/(7<=op/\op<=11)\/op=6\/(18<=op/\op<=20))/\r=k)\/((12<=op/\op<=17)/\r=1)):=by
 unfold zag at h;obtain⟨b,hb,U⟩:=z5c k;rw[hb,Waa]at h
 by_cases I:b=0
 ·rw[if_pos I]at h;cases h;exact absurd rfl h0
 rw[if_neg I]at h;refine⟨U I,?_⟩
 have two:∀{c:Prop} [Decidable c] {x:Int},(if c then some (0:Int)else some x)=some r->r=x:=fun{c} _ {x} h=>by
  by_cases hc:c
  ·rw[if_pos hc]at h;cases h;exact absurd rfl h0
  ·rw[if_neg hc]at h;cases h;rfl
 by_cases c1:op=5
 ·rw[if_pos c1]at h;exact .inl ⟨.inl c1,two h⟩
 rw[if_neg c1]at h
 by_cases c2:7<=op/\op<=11
 ·rw[if_pos c2.1,if_pos c2.2]at h;exact .inl ⟨.inr (.inl c2),two h⟩
 by_cases c3:op=6
 ·rw[if_neg (by omega),if_pos c3]at h;exact .inl ⟨.inr (.inr (.inl c3)),two h⟩
 by_cases c4:18<=op/\op<=20
 ·rw[if_pos (by omega),if_neg (by omega),if_neg c3,if_pos c4.1,if_pos c4.2]at h;exact .inl ⟨.inr (.inr (.inr c4)),two h⟩
 by_cases c5:12<=op/\op<=17
 ·refine .inr ⟨c5,?_⟩
  rw[if_pos (by omega),if_neg (by omega),if_neg c3,if_neg (by omega)]at h
  by_cases d1:op=12
  ·rw[if_pos d1]at h;cases h;rfl
  rw[if_neg d1]at h
  by_cases d2:op=13
  ·rw[if_pos d2]at h;cases h;rfl
  rw[if_neg d2,if_pos (by omega),if_pos c5.2]at h;exact two h
 ·exfalso
  by_cases d:7<=op
  ·rw[if_pos d,if_neg (by omega),if_neg c3,if_pos (by omega),if_neg (by omega),if_neg (by omega),if_neg (by omega),if_pos (by omega),if_neg (by omega)]at h;cases h;exact h0 rfl
  ·rw[if_neg d,if_neg c3,if_neg (by omega),if_neg (by omega),if_neg (by omega),if_neg (by omega)]at h;cases h;exact h0 rfl
theorem zlx {op k r:Int} (h:zag op k=some r) (h0:r≠0):isK k/\isK r:=by
 obtain⟨I,h|h⟩:=zwr h h0
 ·rw[h.2];exact⟨I,I⟩
 ·exact⟨I,.inl h.2⟩
theorem zyd {op k r:Int} (h:zag op k=some r) (h0:r≠0) (I:op=5\/op=6\/(7<=op/\op<=11)\/(18<=op/\op<=20)):r=k:=by
 have:=zwr h h0;omega
theorem z81 {op k r:Int} (h:zag op k=some r) (h0:r≠0) (I:12<=op/\op<=17):r=1:=by
 have:=zwr h h0;omega
theorem z1p {k r:Int} (h:zag 6 k=some r) (h0:r≠0):k≠4:=by
 rintro rfl;simp[zag,zba]at h;exact h0 h.symm
theorem zrz {op k r:Int} (h:zag op k=some r):zj2 op k=some r:=by
 obtain⟨I,_,_,h1,h2⟩:=z7g op k;rw[h]at h2;cases h2;exact h1
theorem z9v {n:Int} (h1:-2147483648<=n) (h2:n<2147483648):xnot .i64 n=-1-n:=by
 show IntKind.i64.wrap ((BitVec.ofInt 64 (-1)^^^BitVec.ofInt 64 n).toNat:Nat)=-1-n
 have h1:BitVec.ofInt 64 (-1)=BitVec.allOnes 64:=by decide
 rw[h1,BitVec.allOnes_xor,BitVec.toNat_not,BitVec.toNat_ofInt]
 show w64 _=_
 rw[zn1];omega
theorem unOk {op k a r:Int} (ho:op=5\/op=6) (h:zag op k=some r) (h0:r≠0):∃v,zj6 op k a=some v/\okV r v:=by
 have I:=(zlx h h0).1
 have e:r=k:=zyd h h0 (by omega)
 unfold zj6;rw[zrz h,Waa,if_neg h0];simp only[za7,Waa];subst e
 rcases ho with rfl|rfl
 ·exact⟨_,rfl,zr3 I _⟩
 ·rw[if_neg (by decide),if_pos rfl]
  have h4:=z1p h h0
  have hv:=zr3 I a
  by_cases U:r=1
  ·subst U
   rw[if_pos rfl];refine⟨_,rfl,?_⟩
   have:zmi 1 a=0\/zmi 1 a=1:=by unfold okV at hv;omega
   rcases this with h|h<;>rw[h]<;>simp[okV,zn1]
  ·rw[if_neg U]
   refine⟨_,rfl,?_⟩;rw[z9v (by unfold okV at hv;omega) (by unfold okV at hv;omega)];unfold okV at hv|-;omega
theorem yov (b:Bool):∃v,zlt b=some v/\okV 1 v:=by cases b<;>exact⟨_,rfl,by simp[okV]⟩
theorem ysq (op a b:Int):∃v,zmf op a b=some v/\okV 1 v:=by
 unfold zmf
 repeat' split
 all_goals (obtain⟨v,h,h1⟩:=yov _;rw[h];exact⟨v,rfl,h1⟩)
theorem yox {op k a b r:Int} (ho:7<=op/\op<=20) (h:zag op k=some r) (h0:r≠0):∃v c,zk5 op k a b=some (v,c)/\okV r v/\(c=0\/c=1):=by
 have hk:=(zlx h h0).1
 unfold zk5;rw[if_neg (by omega),if_neg (by omega),zrz h,Waa,if_neg h0];simp only[za7,Waa]
 by_cases hc:12<=op/\op<=17
 ·have e:=z81 h h0 hc
  subst e;rw[if_neg (by omega),if_neg (by omega),if_neg (by omega),if_neg (by omega),if_neg (by omega),if_neg (by omega),if_neg (by omega),if_neg (by omega)];obtain⟨v,h1,h2⟩:=ysq op (zmi k a) (zmi k b);rw[h1];exact⟨v,0,rfl,h2,.inl rfl⟩
 ·have e:r=k:=zyd h h0 (by omega)
  subst e
  have W:∀n,∃v c,some (zmi r n,(0:Int))=some (v,c)/\okV r v/\(c=0\/c=1):=fun n=>⟨_,_,rfl,zr3 hk n,.inl rfl⟩
  have Z:∃v c,some ((0:Int),(1:Int))=some (v,c)/\okV r v/\(c=0\/c=1):=⟨_,_,rfl,yej hk,.inr rfl⟩
  by_cases o8:op=8
  ·subst o8
   rw[if_neg (by omega),if_pos rfl]
   by_cases z:zmi r b=0
   ·rw[if_pos z];exact Z
   ·rw[if_neg z,zc9 z,if_neg (by omega)];exact W _
  by_cases o9:op=9
  ·subst o9
   rw[if_neg (by omega),if_neg (by omega),if_pos rfl]
   by_cases z:zmi r b=0
   ·rw[if_pos z];exact Z
   ·rw[if_neg z,zc9 z,zc9 z];exact W _
  by_cases o7:op=7
  ·rw[if_pos o7];exact W _
  rw[if_neg o7,if_neg o8,if_neg o9]
  by_cases I:op=10
  ·rw[if_pos I];exact W _
  by_cases U:op=11
  ·rw[if_neg I,if_pos U];exact W _
  by_cases aa:op=18
  ·rw[if_neg I,if_neg U,if_pos aa];exact W _
  by_cases ab:op=19
  ·rw[if_neg I,if_neg U,if_neg aa,if_pos ab];exact W _
  have ad:op=20:=by omega
  rw[if_neg I,if_neg U,if_neg aa,if_neg ab,if_pos ad];exact W _
theorem z03 (b:Bool):∃v,zbn b=some v/\okV 1 v:=by cases b<;>exact⟨_,rfl,by simp[okV]⟩
theorem ymb {name:Str} (s:A4 Int) {i:Int} {l:List Int} (hl:za5 name=some l) (h0:0<=i) (h1:i<(l.length:Int)):∃v,zf4 name s i=some v/\okV (l.getD i.toNat 0) v:=by
 have k1:∀(s:A4 Int),∃v,(zbn (!(decide (s.a0=0))))=some v/\okV 1 v:=fun s=>z03 _
 unfold za5 at hl
 repeat' (first|(cases hl;done)|split at hl)
 all_goals cases hl
 all_goals (simp only[Waj,Wam,Int.natCast_add,Int.reduceAdd]at h1;subst_vars)
 all_goals (have hi:i=0\/i=1\/i=2:=by omega)
 all_goals (rcases hi with rfl|rfl|rfl)
 all_goals (first|(exfalso;revert h1;decide)|skip)
 all_goals (first
  |(obtain⟨v,e,hv⟩:=k1 s;refine⟨v,?_,hv⟩;simp[zf4,e];done)
  |(refine⟨zmi 4 s.a1,?_,zr3 (.inr (.inr (.inr rfl))) _⟩;simp[zf4,zcl,za7,idx];done)
  |(refine⟨zmi 2 s.a1,?_,zr3 (.inr (.inl rfl)) _⟩;simp[zf4,zcl,za7,idx];done)
  |(obtain⟨v1,I,g1⟩:=z03 (decide (s.a3<=s.a0))
    obtain⟨v2,U,g2⟩:=z03 (decide (s.a0<=0))
    first|(refine⟨v1,?_,g1⟩;simp[zf4,zcl,za7,I,U];done)|(refine⟨v2,?_,g2⟩;simp[zf4,zcl,za7,I,U];done)|(refine⟨zmi 2 s.a0,?_,zr3 (.inr (.inl rfl)) _⟩;simp[zf4,zcl,za7,I,U];done)))
end Go.Lz

end
section
namespace Go.Lz
inductive Reach (l:xtq) (a:Nat):Nat->Prop
 |refl:Reach l a a
 |step {x y:Nat} {e:A2 Int} (h:Reach l a x) (he:e∈l.Below) (h0:e.a0=x) (h1:e.a1=y) (hy:y<l.Names.length):Reach l a y
def inN (l:xtq) (a:Int):Prop:=0<=a/\a<(l.Names.length:Int)
instance (l:xtq) (a:Int):Decidable (inN l a):=by unfold inN;exact inferInstance
open Classical in
noncomputable def leqN (l:xtq) (a b:Int):Bool:=decide (inN l a/\inN l b/\Reach l a.toNat b.toNat)
theorem Reach.lt {l:xtq} {a b:Nat} (ha:a<l.Names.length) (h:Reach l a b):b<l.Names.length:=by
 cases h with
 |refl=>exact ha
 |step _ _ _ _ hy=>exact hy
theorem Reach.trans {l:xtq} {a b c:Nat} (h1:Reach l a b) (h2:Reach l b c):Reach l a c:=by
 induction h2 with
 |refl=>exact h1
 |step _ he h0 h1 hy I=>exact .step I he h0 h1 hy
theorem z82 (l:xtq) (a:Int):zbb l a=some (decide (inN l a)):=by
 unfold zbb inN
 by_cases h:0<=a<;>simp[h]
theorem marks {l:xtq} {a:Nat} {out:List Bool} (hlen:out.length=l.Names.length) (ha:out[a]? =some true) (hr:∀k:Nat,out[k]? =some true->Reach l a k)
  (hc:∀(k:Nat) (e:A2 Int) (y:Nat),out[k]? =some true->e∈l.Below->e.a0=k->e.a1=y->y<l.Names.length->out[y]? =some true) (k:Nat):out[k]? =some true↔Reach l a k:=by
 refine⟨hr k,fun h=>?_⟩
 induction h with
 |refl=>exact ha
 |step _ he h0 h1 hy I=>exact hc _ _ _ I he h0 h1 hy
structure InvA (l:xtq) (a:Nat) (out:List Bool):Prop where
 len:out.length=l.Names.length
 ha:out[a]? =some true
 hr:∀k:Nat,out[k]? =some true->Reach l a k
structure InvB (l:xtq) (a:Nat) (out0 out:List Bool) (more:Bool) (i:Nat):Prop extends InvA l a out where
 il:i<=l.Below.length
 cnt:out.count false+(if more then 1 else 0)<=out0.count false
 same:more=false->∀(j:Nat) (e:A2 Int) (x y:Nat),j<i->l.Below[j]? =some e->e.a0=x->e.a1=y->y<l.Names.length->out[x]? =some true->out[y]? =some true
theorem pass {l:xtq} {a:Nat} (ha:a<l.Names.length) {out0:List Bool} (h0:InvA l a out0):
  ∃r:List Bool×Bool,loop (zfr l) (out0,false,0)=some r/\InvB l a out0 r.1 r.2 l.Below.length:=by
 refine zmp (fun s=>InvB l a out0 s.1 s.2.1 s.2.2) (fun(r:List Bool×Bool)=>InvB l a out0 r.1 r.2 l.Below.length) (fun s=>l.Below.length-s.2.2) ?_ (out0,false,0)
  ⟨h0,Waf _,by simp,fun _ j e x y hj=>(Nat.not_lt_zero _ hj).elim⟩
 rintro⟨out,more,i⟩ h;dsimp only at h|-
 by_cases hi:i<l.Below.length
 ·left
  have aa:l.Below[i]? =some l.Below[i]:=Wac hi
  have skip:(∀x y:Nat,l.Below[i].a0=x->l.Below[i].a1=y->y<l.Names.length->out[x]? =some true->out[y]? =some true)->InvB l a out0 out more (i+1):=fun hs=>
   ⟨h.toInvA,hi,h.cnt,fun hm j e x y hj ab e0 e1 hy I=>by
     rcases WaG j i with aj|aj
     ·exact h.same hm j e x y aj ab e0 e1 hy I
     ·obtain rfl:j=i:=by omega
      rw[aa]at ab;obtain rfl:=Wab ab
      exact hs x y e0 e1 hy I⟩
  simp only[zfr,Waw,hi,if_true,aa,Waa,z82,decide_eq_true_eq]
  by_cases c1:inN l l.Below[i].a0
  ·simp only[c1,if_true]
   by_cases c2:inN l l.Below[i].a1
   ·simp only[c2,if_true]
    obtain⟨x,I⟩:∃x:Nat,l.Below[i].a0=x:=⟨l.Below[i].a0.toNat,by have:=c1.1;omega⟩;obtain⟨y,hy⟩:∃y:Nat,l.Below[i].a1=y:=⟨l.Below[i].a1.toNat,by have:=c2.1;omega⟩
    have ar:x<l.Names.length:=by have:=c1.2;omega
    have ak:y<l.Names.length:=by have:=c2.2;omega
    have au:x<out.length:=by rw[h.len];exact ar
    have al:y<out.length:=by rw[h.len];exact ak
    rw[hy,I,zqs,zqs]
    have ad:out[x]? =some out[x]:=Wac au
    have ae:out[y]? =some out[y]:=Wac al
    rw[ad,Waa]
    cases an:out[x]with
    |false=>
     simp only[WaD,if_false];exact⟨_,rfl,skip (fun x' y' e0 _ _ ao=>by rw[I]at e0;obtain rfl:x=x':=(by omega);rw[ad,an]at ao;cases ao),by simp only;omega⟩
    |true=>
     simp only[if_true];rw[ae,Waa]
     cases hb:out[y]with
     |true=>
      simp only[if_true];exact⟨_,rfl,skip (fun x' y' _ e1 _ _=>by rw[hy]at e1;obtain rfl:y=y':=(by omega);rw[ae,hb]),by simp only;omega⟩
     |false=>
      have av:out[y]? =some false:=by rw[ae,hb]
      have aw:=zxz av
      have aq:(out.set y true)[y]? =some true:=WaU al
      have af:∀k:Nat,out[k]? =some true->(out.set y true)[k]? =some true:=fun k U=>by
       by_cases e:y=k
       ·subst e;exact aq
       ·rw[WaT e];exact U
      have ai:∀k:Nat,(out.set y true)[k]? =some true->k=y\/out[k]? =some true:=fun k U=>by
       by_cases e:y=k
       ·exact .inl e.symm
       ·rw[WaT e]at U;exact .inr U
      have ax:=h.cnt
      simp only[WaD,if_false,Int.toNat_natCast];refine⟨(out.set y true,true,i+1),rfl,?_,by simp only;omega⟩;dsimp only;refine⟨⟨by simpa using h.len,af _ h.ha,fun k U=>?_⟩,hi,by simp only[if_true];omega,fun hm=>by cases hm⟩
      rcases ai k U with rfl|U
      ·exact .step (h.hr x (by rw[ad,an])) (Wap hi) I hy ak
      ·exact h.hr k U
   ·simp only[c2,if_false]
    exact⟨_,rfl,skip (fun x y _ e1 hy _=>(c2 ⟨by omega,by omega⟩).elim),by simp only;omega⟩
  ·simp only[c1,if_false]
   exact⟨_,rfl,skip (fun x y e0 _ _ I=>by
    have hl:=(h.hr x I).lt ha
    exact(c1 ⟨by omega,by omega⟩).elim),by simp only;omega⟩
 ·right
  have:i=l.Below.length:=by have:=h.il;omega
  subst this;exact⟨(out,more),by simp[zfr],h⟩
theorem yf4 {l:xtq} {a:Nat} (ha:a<l.Names.length):
  ∃out:List Bool,loop (zd0 l) ((List.replicate l.Names.length false).set a true,true)=some out/\out.length=l.Names.length/\∀k:Nat,out[k]? =some true↔Reach l a k:=by
 have ab:((List.replicate l.Names.length false).set a true)[a]? =some true:=WaU (by simpa using ha)
 have aa:∀k:Nat,((List.replicate l.Names.length false).set a true)[k]? =some true->k=a:=fun k U=>by
  by_cases e:a=k
  ·exact e.symm
  ·rw[WaT e]at U;simp[Wb4]at U
 obtain⟨out,e,h1,h2⟩:=zmp (f:=zd0 l)
  (fun s=>InvA l a s.1/\(s.2=false->∀(k:Nat) (e:A2 Int) (y:Nat),s.1[k]? =some true->e∈l.Below->e.a0=k->e.a1=y->y<l.Names.length->s.1[y]? =some true))
  (fun(r:List Bool)=>InvA l a r/\∀(k:Nat) (e:A2 Int) (y:Nat),r[k]? =some true->e∈l.Below->e.a0=k->e.a1=y->y<l.Names.length->r[y]? =some true)
  (fun s=>2*s.1.count false+(if s.2 then 1 else 0)) (by
    rintro⟨out,more⟩ ⟨h1,h2⟩;dsimp only at h1 h2|-
    cases more with
    |false=>right;exact⟨out,by simp[zd0],h1,h2 rfl⟩
    |true=>
     left
     obtain⟨⟨ad,I⟩,e2,h3⟩:=pass ha h1;dsimp only at h3;refine⟨(ad,I),by simp only[zd0,if_true,e2,Waa],⟨h3.toInvA,fun hm k e y U he e0 e1 hy=>?_⟩,?_⟩
     ·obtain⟨j,hj⟩:=WbJ he
      exact h3.same hm j e k y (Wag.1 hj).1 hj e0 e1 hy U
     ·have:=h3.cnt
      cases I with
      |true=>simp only[if_true]at this|-;omega
      |false=>simp only[WaD,if_false,if_true]at this|-;omega)
  ((List.replicate l.Names.length false).set a true,true) ⟨⟨by simp,ab,fun k U=>by rw[aa k U];exact .refl⟩,fun h=>by cases h⟩
 exact⟨out,e,h1.len,marks h1.len h1.ha h1.hr h2⟩
theorem zwe {l:xtq} (hn:l.Names.length<=1000000) (a b:Int):zal l a b=some (leqN l a b):=by
 unfold zal leqN;simp only[z82,Waa,decide_eq_true_eq]
 by_cases ha:inN l a
 ·by_cases hb:inN l b
  ·obtain⟨x,rfl⟩:∃x:Nat,a=x:=⟨a.toNat,by have:=ha.1;omega⟩
   obtain⟨y,rfl⟩:∃y:Nat,b=y:=⟨b.toNat,by have:=hb.1;omega⟩
   have I:x<l.Names.length:=by have:=ha.2;omega
   obtain⟨out,e,hlen,hr⟩:=yf4 I
   have hy:y<out.length:=by have:=hb.2;omega
   simp only[ha,hb,if_true];rw[zc9 (by omega),zqs,Wac (by simpa using I),Waa,Int.toNat_natCast,e];simp only[Waa,zqs,Wac hy,Int.toNat_natCast]
   congr 1
   rw[Wa1];simp only[decide_eq_true_eq,ha,hb,true_and];rw[<-hr y,Wac hy];simp
  ·simp[ha,hb]
 ·simp[ha]
end Go.Lz

end
section
namespace Go.Lz
instance (l:xtq) (a:Int):Decidable (inN l a):=by unfold inN;exact inferInstance
theorem yiu (l:xtq) (a:Int):zk9 l a=some (decide (inN l a)):=by
 unfold zk9 inN
 by_cases h:0<=a<;>simp[h]
structure Inv1 (l:xtq) (a:Nat) (out:List Bool) (todo:List Int):Prop where
 len:out.length=l.Names.length
 ha:out[a]? =some true
 hr:∀k:Nat,out[k]? =some true->Reach l a k
 td:∀t∈todo,0<=t/\out[t.toNat]? =some true
 cnt:out.count false+todo.length<=l.Names.length
structure Inv2 (l:xtq) (a:Nat) (x:Nat) (out0:List Bool) (todo0:List Int) (out:List Bool) (todo:List Int) (i:Nat):Prop extends Inv1 l a out todo where
 il:i<=l.Below.length
 mono:∀k:Nat,out0[k]? =some true->out[k]? =some true
 sub:∀t∈todo0,t∈todo
 new:∀k:Nat,out[k]? =some true->out0[k]? =some true\/(k:Int)∈todo
 done:∀(j:Nat) (e:A2 Int) (y:Nat),j<i->l.Below[j]? =some e->e.a0=x->e.a1=y->y<l.Names.length->out[y]? =some true
 sum:out.count false+todo.length<=out0.count false+todo0.length
theorem yo5 {l:xtq} (hn:l.Names.length<=1000000) {a x:Nat} {out0:List Bool} {todo0:List Int} (hx:out0[x]? =some true) (h0:Inv1 l a out0 todo0):
  ∃r:List Bool×List Int,loop (zj3 l (x:Int)) (out0,todo0,0)=some r/\Inv2 l a x out0 todo0 r.1 r.2 l.Below.length:=by
 refine zmp (fun s=>Inv2 l a x out0 todo0 s.1 s.2.1 s.2.2) (fun(r:List Bool×List Int)=>Inv2 l a x out0 todo0 r.1 r.2 l.Below.length) (fun s=>l.Below.length-s.2.2) ?_ (out0,todo0,0)
  ⟨h0,Waf _,fun _ h=>h,fun _ h=>h,fun _ h=>.inl h,fun j e y hj=>(Nat.not_lt_zero _ hj).elim,Wae _⟩
 rintro⟨out,todo,i⟩ h;dsimp only at h|-
 by_cases hi:i<l.Below.length
 ·left
  have ad:l.Below[i]? =some l.Below[i]:=Wac hi
  have skip:(∀y:Nat,l.Below[i].a0=x->l.Below[i].a1=y->y<l.Names.length->out[y]? =some true)->Inv2 l a x out0 todo0 out todo (i+1):=fun hs=>
   ⟨h.toInv1,hi,h.mono,h.sub,h.new,fun j e y hj aa e0 e1 hy=>by
     rcases WaG j i with ab|ab
     ·exact h.done j e y ab aa e0 e1 hy
     ·obtain rfl:j=i:=by omega
      rw[ad]at aa;obtain rfl:=Wab aa
      exact hs y e0 e1 hy,h.sum⟩
  simp only[zj3,Waw,hi,if_true,ad,Waa,yiu,decide_eq_true_eq]
  by_cases c1:l.Below[i].a0=(x:Int)
  ·simp only[c1,if_true]
   by_cases c2:inN l l.Below[i].a1
   ·simp only[c2,if_true]
    obtain⟨y,hy⟩:∃y:Nat,l.Below[i].a1=y:=⟨l.Below[i].a1.toNat,by have:=c2.1;omega⟩
    have ai:y<l.Names.length:=by have:=c2.2;omega
    have ak:y<out.length:=by rw[h.len];exact ai
    rw[hy,zqs]
    have aj:out[y]? =some out[y]:=Wac ak
    rw[aj,Waa]
    cases hb:out[y]with
    |true=>
     simp only[if_true];exact⟨_,rfl,skip (fun y' _ e1 _=>by rw[hy]at e1;obtain rfl:y=y':=(by omega);rw[aj,hb]),by simp only;omega⟩
    |false=>
     have al:out[y]? =some false:=by rw[aj,hb]
     have ao:=zxz al
     have ae:(out.set y true)[y]? =some true:=WaU (by rw[h.len];exact ai)
     have U:∀k:Nat,out[k]? =some true->(out.set y true)[k]? =some true:=fun k I=>by
      by_cases e:y=k
      ·subst e;exact ae
      ·rw[WaT e];exact I
     have af:∀k:Nat,(out.set y true)[k]? =some true->k=y\/out[k]? =some true:=fun k I=>by
      by_cases e:y=k
      ·exact .inl e.symm
      ·rw[WaT e]at I;exact .inr I
     have aq:=h.cnt
     have ar:=h.sum
     simp only[WaD,if_false,Int.toNat_natCast];rw[zc9 (by omega)];refine⟨(out.set y true,todo++[(y:Int)],i+1),rfl,?_,by simp only;omega⟩;dsimp only
     refine⟨⟨by simpa using h.len,U _ h.ha,fun k I=>?_,fun t ht=>?_,by simp only[Wai,Wby];omega⟩,hi,fun k I=>U k (h.mono k I),fun t ht=>List.mem_append_left _ (h.sub t ht),
      fun k I=>?_,fun j e y' hj aa e0 e1 an=>?_,by simp only[Wai,Wby];omega⟩
     ·rcases af k I with rfl|I
      ·exact .step (h.hr x (h.mono x hx)) (Wap hi) c1 hy ai
      ·exact h.hr k I
     ·rcases WaN.1 ht with ht|ht
      ·exact⟨(h.td t ht).1,U _ (h.td t ht).2⟩
      ·rw[WaX]at ht
       subst ht;exact⟨by omega,by simpa using ae⟩
     ·rcases af k I with rfl|I
      ·exact .inr (by simp)
      ·rcases h.new k I with h'|h'
       ·exact .inl h'
       ·exact .inr (List.mem_append_left _ h')
     ·rcases WaG j i with ab|ab
      ·exact U _ (h.done j e y' ab aa e0 e1 an)
      ·obtain rfl:j=i:=by omega
       rw[ad]at aa;obtain rfl:=Wab aa;rw[hy]at e1
       obtain rfl:y=y':=by omega
       exact ae
   ·simp only[c2,if_false]
    exact⟨_,rfl,skip (fun y _ e1 hy=>(c2 ⟨by omega,by omega⟩).elim),by simp only;omega⟩
  ·simp only[c1,if_false]
   exact⟨_,rfl,skip (fun y e0 _ _=>(c1 e0).elim),by simp only;omega⟩
 ·right
  have:i=l.Below.length:=by have:=h.il;omega
  subst this;exact⟨(out,todo),by simp[zj3],h⟩
theorem ydk {l:xtq} (hn:l.Names.length<=1000000) {a:Nat} (ha:a<l.Names.length):∃out:List Bool,zj1 l (a:Int)=some out/\out.length=l.Names.length/\∀k:Nat,out[k]? =some true↔Reach l a k:=by
 let I:List Bool×List Int->Prop:=fun s=>Inv1 l a s.1 s.2/\∀(k:Nat) (e:A2 Int) (y:Nat),s.1[k]? =some true->(k:Int)∈s.2\/(e∈l.Below->e.a0=k->e.a1=y->y<l.Names.length->s.1[y]? =some true)
 have hI:I ((List.replicate l.Names.length false).set a true,[(a:Int)]):=by
  have ab:((List.replicate l.Names.length false).set a true)[a]? =some true:=WaU (by simpa using ha)
  have aa:∀k:Nat,((List.replicate l.Names.length false).set a true)[k]? =some true->k=a:=fun k U=>by
   by_cases e:a=k
   ·exact e.symm
   ·rw[WaT e]at U;simp[Wb4]at U
  have hc:=zxz (xs:=List.replicate l.Names.length false) (i:=a) (by simp[Wb4,ha])
  refine⟨⟨by simp,ab,fun k U=>by rw[aa k U];exact .refl,fun t ht=>?_,?_⟩,fun k e y U=>.inl ?_⟩
  ·simp only[WaX]at ht;subst ht;exact⟨by omega,by simpa using ab⟩
  ·simp only[List.count_replicate_self]at hc;simp only[Wby];omega
  ·rw[aa k U];simp
 obtain⟨⟨out,todo⟩,e,hr⟩:=zmp (f:=zj4 l) I (fun r=>Inv1 l a r.1 r.2/\r.2=[]/\I r) (fun s=>s.1.count false+s.2.length) (by
  rintro⟨out,todo⟩ ⟨h1,h2⟩;dsimp only at h1 h2|-
  cases todo with
  |nil=>right;exact⟨(out,[]),by simp[zj4],h1,rfl,h1,h2⟩
  |cons t todo=>
   left
   obtain⟨x,rfl⟩:∃x:Nat,t=x:=⟨t.toNat,by have:=(h1.td t (by simp)).1;omega⟩
   have hx:out[x]? =some true:=by simpa using(h1.td x (by simp)).2
   have ai:=h1.cnt
   simp only[Waj]at ai
   have h0:Inv1 l a out todo:=⟨h1.len,h1.ha,h1.hr,fun t ht=>h1.td t (by simp[ht]),by omega⟩
   obtain⟨⟨af,ae⟩,e2,h3⟩:=yo5 hn hx h0;dsimp only at h3
   have aj:=h3.sum
   refine⟨(af,ae),?_,⟨h3.toInv1,fun k e y U=>?_⟩,by simp only[Waj];omega⟩
   ·have hp:(1:Int)<=((List.length ((x:Int)::todo):Nat):Int):=by simp only[Waj];omega
    have hq:0<((List.length ((x:Int)::todo):Nat):Int):=by simp only[Waj];omega
    simp only[zj4,hq,if_true,Wat,Waa,zc9 hp,List.drop_succ_cons,WbG,e2]
   ·rcases h3.new k U with ad|ad
    ·rcases h2 k e y ad with h4|h4
     ·rcases WaB.1 h4 with h5|h5
      ·have h5:k=x:=by omega
       subst h5
       exact .inr fun he e0 e1 hy=>by
        obtain⟨j,hj⟩:=WbJ he;exact h3.done j e y (Wag.1 hj).1 hj e0 e1 hy
      ·exact .inl (h3.sub _ h5)
     ·exact .inr fun he e0 e1 hy=>h3.mono y (h4 he e0 e1 hy)
    ·exact .inl ad) _ hI
 obtain⟨h1,rfl,_,h2⟩:=hr;refine⟨out,?_,h1.len,marks h1.len h1.ha h1.hr fun k e y U he e0 e1 hy=>(h2 k e y U).elim (fun h=>by simp at h) fun h=>h he e0 e1 hy⟩;unfold zj1;rw[zc9 (by omega),zqs,Wac (by simpa using ha),Waa,Int.toNat_natCast,e];rfl
theorem ygc {l:xtq} (hn:l.Names.length<=1000000) (a b:Int):znn l a b=some (leqN l a b):=by
 unfold znn leqN;simp only[yiu,Waa,decide_eq_true_eq]
 by_cases ha:inN l a
 ·by_cases hb:inN l b
  ·obtain⟨x,rfl⟩:∃x:Nat,a=x:=⟨a.toNat,by have:=ha.1;omega⟩
   obtain⟨y,rfl⟩:∃y:Nat,b=y:=⟨b.toNat,by have:=hb.1;omega⟩;obtain⟨out,e,hlen,hr⟩:=ydk hn (a:=x) (by have:=ha.2;omega)
   have hy:y<out.length:=by have:=hb.2;omega
   simp only[ha,hb,if_true,e,Waa,zqs,Wac hy,Int.toNat_natCast]
   congr 1
   rw[Wa1];simp only[decide_eq_true_eq,ha,hb,true_and];rw[<-hr y,Wac hy];simp
  ·simp[ha,hb]
 ·simp[ha]
end Go.Lz

end
