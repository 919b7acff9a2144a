/- The parts of a proof: V13a, V15f, V15p, Lp2, V08, V07, V06, V05, Lp3, Pt, P05, Pd, P06, P07, P08, P10, P10b, P12s, P12, P10P, P12P, P15z, P15a, PLeq, PLeqP, PLat -/
import Derived.Test.YtcceddpmmgabjaaGreatQl6
set_option linter.unusedVariables false
set_option linter.unusedSimpArgs false
open Go.Proofs.Tryz
section
namespace Go.Lz
open Go.Proofs
attribute [-go_sem] zna g_b gd_b
set_option maxRecDepth 100000
set_option maxHeartbeats 4000000
noncomputable section
def zb6 (s:List xsq) (f:(xsq->Option Bool)):Nat->Option ((Nat)⊕(Int⊕Unit))
 |I=>if(I:Int)<(s.length:Int)then((s[I]?).bind fun U=>(f U).bind fun aa=>if aa=true then(some (.inr (.inl ((I:Int)))))else(some (.inl (I+1))))else(some (.inr (.inr (()))))
def zcn (s:List xsq) (f:(xsq->Option Bool)):Option Int:=
 (loop (zb6 s f) 0).bind (fun I=>match I with|(.inl U)=>some U|(.inr ())=>some (-1))
def zip (U:(xsq->Option Str)) (c1:Str) (x:xsq):Option Bool:=
 (U x).bind fun I=>some (decide (I=c1))
def zj9 (l:List xsq) (name:Str) (of:(xsq->Option Str)):Option Int:=
 (zcn l (zip of name)).bind fun I=>some I
def zrc (v:xsq):Option Str:=
 some v.Name
def zk2 (p:xsj) (name:Str):Option Int:=
 (zj9 p.Vars name zrc).bind fun I=>some I
def zbs (s:List xsw) (f:(xsw->Option Bool)):Nat->Option ((Nat)⊕(Int⊕Unit))
 |I=>if(I:Int)<(s.length:Int)then((s[I]?).bind fun U=>(f U).bind fun aa=>if aa=true then(some (.inr (.inl ((I:Int)))))else(some (.inl (I+1))))else(some (.inr (.inr (()))))
def zb2 (s:List xsw) (f:(xsw->Option Bool)):Option Int:=
 (loop (zbs s f) 0).bind (fun I=>match I with|(.inl U)=>some U|(.inr ())=>some (-1))
def zhl (U:(xsw->Option Str)) (c1:Str) (x:xsw):Option Bool:=
 (U x).bind fun I=>some (decide (I=c1))
def ziq (l:List xsw) (name:Str) (of:(xsw->Option Str)):Option Int:=
 (zb2 l (zhl of name)).bind fun I=>some I
def zn3 (b:xsw):Option Str:=
 some b.Name
def zk9 (p:xsj) (name:Str):Option Int:=
 (ziq p.Blocks name zn3).bind fun I=>some I
def zbw (s:List xsy) (f:(xsy->Option Bool)):Nat->Option ((Nat)⊕(Int⊕Unit))
 |I=>if(I:Int)<(s.length:Int)then((s[I]?).bind fun U=>(f U).bind fun aa=>if aa=true then(some (.inr (.inl ((I:Int)))))else(some (.inl (I+1))))else(some (.inr (.inr (()))))
def zcb (s:List xsy) (f:(xsy->Option Bool)):Option Int:=
 (loop (zbw s f) 0).bind (fun I=>match I with|(.inl U)=>some U|(.inr ())=>some (-1))
def zic (U:(xsy->Option Str)) (c1:Str) (x:xsy):Option Bool:=
 (U x).bind fun I=>some (decide (I=c1))
def zi2 (l:List xsy) (name:Str) (of:(xsy->Option Str)):Option Int:=
 (zcb l (zic of name)).bind fun I=>some I
def zpa (s:xsy):Option Str:=
 some s.Name
def zmq (p:xsj) (name:Str):Option Int:=
 (zi2 p.Sites name zpa).bind fun I=>some I
def zko (l:xsn) (a:Int):Option Bool:=
 if 0<=a then(some (decide (a<(l.Names.length:Int))))else(some false)
def zjq (l:xsn) (af:Int):((List Bool)×(List Int)×Nat)->Option (((List Bool)×(List Int)×Nat)⊕((List Bool)×(List Int)))
 |(U,I,aa)=>if(aa:Int)<(l.Below.length:Int)then((l.Below[aa]?).bind fun ab=>if ab.a0=af then((zko l ab.a1).bind fun ad=>if ad=true then((idx U ab.a1).bind fun ae=>if ae=true then(some (.inl (U,I,(aa+1))))else(need ((I.length+1)*8<=140737488355328) (some (.inl ((U.set ab.a1.toNat true),(I++[ab.a1]),(aa+1))))))else(some (.inl (U,I,(aa+1)))))else(some (.inl (U,I,(aa+1)))))else(some (.inr ((U,I))))
def zjr (l:xsn):((List Bool)×(List Int))->Option (((List Bool)×(List Int))⊕((List Bool)×(List Int)))
 |(U,I)=>if 0<(I.length:Int)then((I[0]?).bind fun ad=>need ((1:Int)<=(I.length:Int)) ((loop (zjq l ad) (U,(I.drop 1),0)).bind (fun(ab,aa)=>some (.inl (ab,aa)))))else(some (.inr ((U,I))))
def zjo (l:xsn) (a:Int):Option (List Bool):=
 need (0<=(l.Names.length:Int)/\1*(l.Names.length:Int)<=140737488355328) ((idx (List.replicate l.Names.length false) a).bind fun aa=>(loop (zjr l) (((List.replicate l.Names.length false).set a.toNat true),[a])).bind (fun(I,U)=>some I))
def ziv (l:xsn) (of:(Int->Option Bool)) (ahead:(Int->Int->Option Bool)) (U:Nat):Nat->Option ((Nat)⊕(Unit⊕Unit))
 |I=>if(I:Int)<(l.Names.length:Int)then((of (I:Int)).bind fun aa=>if aa=true then((ahead (U:Int) (I:Int)).bind fun ab=>if ab=true then(some (.inl (I+1)))else(some (.inr (.inl (())))))else(some (.inl (I+1))))else(some (.inr (.inr (()))))
def zkj (l:xsn) (of:(Int->Option Bool)) (ahead:(Int->Int->Option Bool)):Nat->Option ((Nat)⊕(Int⊕Unit))
 |I=>if(I:Int)<(l.Names.length:Int)then((of (I:Int)).bind fun U=>if U=true then((loop (ziv l of ahead I) 0).bind (fun aa=>match aa with|(.inl ())=>some (.inl (I+1))|(.inr ())=>some (.inr (.inl ((I:Int))))))else(some (.inl (I+1))))else(some (.inr (.inr (()))))
def zlo (l:xsn) (of:(Int->Option Bool)) (ahead:(Int->Int->Option Bool)):Option Int:=
 (loop (zkj l of ahead) 0).bind (fun U=>match U with|(.inl I)=>some I|(.inr ())=>some (-1))
def zm2 (c0:List Bool) (c1:List Bool) (c:Int):Option Bool:=
 (idx c0 c).bind fun I=>if I=true then((idx c1 c).bind fun U=>some U)else(some false)
def zmt (l:xsn) (a:Int) (b:Int):Option Bool:=
 (zko l a).bind fun I=>if I=true then((zko l b).bind fun U=>if U=true then((zjo l a).bind fun aa=>(idx aa b).bind fun ab=>some ab)else(some false))else(some false)
def zm1 (U:xsn) (c:Int) (d:Int):Option Bool:=
 (zmt U c d).bind fun I=>some I
def zlp (l:xsn) (a:Int) (b:Int):Option Int:=
 (zko l a).bind fun I=>if I=true then((zko l b).bind fun U=>if U=true then((zjo l a).bind fun aa=>(zjo l b).bind fun ab=>(zlo l (zm2 aa ab) (zm1 l)).bind fun ad=>some ad)else(some (-1)))else(some (-1))
def zso (d:flow_desk):((List Int)×Nat)->Option (((List Int)×Nat)⊕(List Int))
 |(I,U)=>if(U:Int)<(d.p.Sites.length:Int)then((d.p.Sites[U]?).bind fun aa=>need ((I.length+2)*8<=140737488355328) (some (.inl ((I++[aa.From,aa.To]),(U+1)))))else(some (.inr (I)))
def zsp (d:flow_desk) (labels:List Int):((List Int)×Nat)->Option (((List Int)×Nat)⊕(List Int))
 |(I,U)=>if(U:Int)<(w64 ((d.p.Vars.length:Int)+(d.p.Blocks.length:Int)))then(if(U:Int)<(labels.length:Int)then((labels[U]?).bind fun aa=>need ((I.length+1)*8<=140737488355328) (some (.inl ((I++[aa]),(U+1)))))else(need ((I.length+1)*8<=140737488355328) (some (.inl ((I++[(-1)]),(U+1))))))else(some (.inr (I)))
def zn5 (d:flow_desk) (labels:List Int):Option (List Int):=
 (loop (zsp d labels) ([],0)).bind (fun U=>(loop (zso d) (U,0)).bind (fun I=>some I))
def zl9 (d:flow_desk) (name:Str):Option Int:=
 (zk9 d.p name).bind fun I=>some (w64 ((d.p.Vars.length:Int)+I))
def zpb (d:flow_desk) (name:Str):Option Int:=
 (zmq d.p name).bind fun I=>some (w64 ((w64 ((w64 ((d.p.Vars.length:Int)+(d.p.Blocks.length:Int)))+(w64 (2*I))))+1))
def zv5 (p0:Int):Option Bool:=
 some true
def zk5 (U:xsn) (c:Int) (d:Int):Option Bool:=
 (zmt U c d).bind fun I=>some I
def zk3 (l:xsn):Option Int:=
 (zlo l zv5 (zk5 l)).bind fun I=>some I
def zo8 (l:xsn) (I:List Int):(Int×Nat)->Option ((Int×Nat)⊕(Int⊕Int))
 |(U,aa)=>if(aa:Int)<(I.length:Int)then((I[aa]?).bind fun ab=>if U<0 then(some (.inr (.inl ((-1)))))else(if ab<0 then(some (.inr (.inl ((-1)))))else(if(l.Names.length:Int)<=ab then(some (.inr (.inl ((-1)))))else((zlp l U ab).bind fun ad=>some (.inl (ad,(aa+1)))))))else(some (.inr (.inr (U))))
def ztr (l:xsn) (I:List Int):Option Int:=
 (zk3 l).bind fun U=>(loop (zo8 l I) (U,0)).bind (fun aa=>match aa with|(.inl ab)=>some ab|(.inr ad)=>some ad)
end
theorem zk7 {s:List xsq} {f:(xsq->Option Bool)} {r:Int}
  {f_f:FuncId} {f_c:List C} (ab:Clo f_c) (ad:∀(x0:xsq) (r:Bool),f x0=some r->Pu prog f_f ([.agg (xst x0)]++f_c.map V.one) (.one (.bool r))) (h:zcn s f=some r):
  Pu prog 124 [.one (.sl (s.map xst)),.one (.fn f_f f_c)] (.one (.int .i64 r)):=by
 have F:=trivial;have R:=trivial
 refine pA func124 ?_;simp only[f124];unfold zcn at h
 have F:=And.intro ab.all F
 refine bi h fun ai h ae=>?_;refine tr ?_;intros
 refine lX ae (fun|U,_=>⟨[(0,.one (.sl (s.map xst))),(1,.one (.fn f_f f_c)),(7,.one (.int .i64 (s.length:Int))),(8,.one (.int .i64 (U:Int)))],[]⟩) (fun|(.inl al),_=>⟨[],[]⟩|(.inr ()),_=>⟨[],[]⟩) (fun|(.inl _)=>none|(.inr _)=>some 0) ?_ ?_
 intro i3 b3 aa
 rcases ai with aj|⟨⟩
 cases aa;obtain rfl:=Wab aa;obtain⟨⟩:=b3;dsimp only at h|-;cases h;exact fin;intro af3 m3 U a3 o3 I ho3 ih3;obtain⟨⟩:=a3;dsimp only[zb6]at I|-;refine fl I F ?_ ?_<;>intro I _ F;refine bx I F fun an I ak F=>?_;refine bi I fun ao I af=>?_;refine tr ?_;intros;refine cS (ad _ _ af) ?_;refine fv I F ?_ ?_<;>intro I _ F;cases I;obtain rfl:=sr ho3
 try dsimp only at h
 cases h;exact fin;cases I;refine tt ?_;refine wn U F fun F=>?_;exact bk ih3 ho3 ();cases I;refine tt ?_;exact xt ho3 af3 ()
theorem zra {c0:(xsq->Option Str)} {c1:Str} {x:xsq} {r:Bool}
  {c0_f:FuncId} {c0_c:List C} (I:Clo c0_c) (U:∀(x0:xsq) (r:Str),c0 x0=some r->Pu prog c0_f ([.agg (xst x0)]++c0_c.map V.one) (.one (.str r))) (h:zip c0 c1 x=some r):
  Pu prog 125 [.agg (xst x),.one (.iptr [.fn c0_f c0_c] 0),.one (.iptr (eS c1) 0)] (.one (.bool r)):=by
 have F:=trivial;have R:=trivial
 refine pA func125 ?_;simp only[f125];unfold zip at h
 have F:=And.intro I.all F
 refine bi h fun ab h aa=>?_;refine tr ?_;intros;refine cD (U _ _ aa) ?_;cases h;exact fin
theorem ztx {l:List xsq} {name:Str} {of:(xsq->Option Str)} {r:Int}
  {of_f:FuncId} {of_c:List C} (I:Clo of_c) (U:∀(x0:xsq) (r:Str),of x0=some r->Pu prog of_f ([.agg (xst x0)]++of_c.map V.one) (.one (.str r))) (h:zj9 l name of=some r):
  Pu prog 90 [.one (.sl (l.map xst)),.one (.str name),.one (.fn of_f of_c)] (.one (.int .i64 r)):=by
 have F:=trivial;have R:=trivial
 refine pA func90 ?_;simp only[f90];unfold zj9 at h
 have F:=And.intro I.all F
 refine bi h fun ab h aa=>?_;refine tr ?_;intros;refine cS (zk7 (f_f:=125) (f_c:=[.iptr [.fn of_f of_c] 0,.iptr [.str name] 0]) clo (fun _ r h=>zra (c0_f:=of_f) (c0_c:=of_c) I U h) aa) ?_;cases h;exact fin
theorem z0j {v:xsq} {r:Str} (h:zrc v=some r):
  Pu prog 91 [.agg (xst v)] (.one (.str r)):=by
 have F:=trivial;have R:=trivial
 refine pA func91 ?_;simp only[f91];unfold zrc at h;cases h;exact fin
theorem zli {p:xsj} {name:Str} {r:Int} (h:zk2 p name=some r):
  Pu prog 60 [.agg (xso p),.one (.str name)] (.one (.int .i64 r)):=by
 have F:=trivial;have R:=trivial
 refine pA func60 ?_;simp only[f60];unfold zk2 at h;refine bi h fun U h I=>?_;refine tr ?_;intros;refine cS (ztx (of_f:=91) (of_c:=[]) clo (fun _ r h=>z0j h) I) ?_;cases h;exact fin
theorem zkc {s:List xsw} {f:(xsw->Option Bool)} {r:Int}
  {f_f:FuncId} {f_c:List C} (ab:Clo f_c) (ad:∀(x0:xsw) (r:Bool),f x0=some r->Pu prog f_f ([.agg (xsu x0)]++f_c.map V.one) (.one (.bool r))) (h:zb2 s f=some r):
  Pu prog 127 [.one (.sl (s.map xsu)),.one (.fn f_f f_c)] (.one (.int .i64 r)):=by
 have F:=trivial;have R:=trivial
 refine pA func127 ?_;simp only[f127];unfold zb2 at h
 have F:=And.intro ab.all F
 refine bi h fun ai h ae=>?_;refine tr ?_;intros
 refine lX ae (fun|U,_=>⟨[(0,.one (.sl (s.map xsu))),(1,.one (.fn f_f f_c)),(7,.one (.int .i64 (s.length:Int))),(8,.one (.int .i64 (U:Int)))],[]⟩) (fun|(.inl al),_=>⟨[],[]⟩|(.inr ()),_=>⟨[],[]⟩) (fun|(.inl _)=>none|(.inr _)=>some 0) ?_ ?_
 intro i3 b3 aa
 rcases ai with aj|⟨⟩
 cases aa;obtain rfl:=Wab aa;obtain⟨⟩:=b3;dsimp only at h|-;cases h;exact fin;intro af3 m3 U a3 o3 I ho3 ih3;obtain⟨⟩:=a3;dsimp only[zbs]at I|-;refine fl I F ?_ ?_<;>intro I _ F;refine bx I F fun an I ak F=>?_;refine bi I fun ao I af=>?_;refine tr ?_;intros;refine cS (ad _ _ af) ?_;refine fv I F ?_ ?_<;>intro I _ F;cases I;obtain rfl:=sr ho3
 try dsimp only at h
 cases h;exact fin;cases I;refine tt ?_;refine wn U F fun F=>?_;exact bk ih3 ho3 ();cases I;refine tt ?_;exact xt ho3 af3 ()
theorem zpg {c0:(xsw->Option Str)} {c1:Str} {x:xsw} {r:Bool}
  {c0_f:FuncId} {c0_c:List C} (I:Clo c0_c) (U:∀(x0:xsw) (r:Str),c0 x0=some r->Pu prog c0_f ([.agg (xsu x0)]++c0_c.map V.one) (.one (.str r))) (h:zhl c0 c1 x=some r):
  Pu prog 128 [.agg (xsu x),.one (.iptr [.fn c0_f c0_c] 0),.one (.iptr (eS c1) 0)] (.one (.bool r)):=by
 have F:=trivial;have R:=trivial
 refine pA func128 ?_;simp only[f128];unfold zhl at h
 have F:=And.intro I.all F
 refine bi h fun ab h aa=>?_;refine tr ?_;intros;refine cD (U _ _ aa) ?_;cases h;exact fin
theorem zrb {l:List xsw} {name:Str} {of:(xsw->Option Str)} {r:Int}
  {of_f:FuncId} {of_c:List C} (I:Clo of_c) (U:∀(x0:xsw) (r:Str),of x0=some r->Pu prog of_f ([.agg (xsu x0)]++of_c.map V.one) (.one (.str r))) (h:ziq l name of=some r):
  Pu prog 93 [.one (.sl (l.map xsu)),.one (.str name),.one (.fn of_f of_c)] (.one (.int .i64 r)):=by
 have F:=trivial;have R:=trivial
 refine pA func93 ?_;simp only[f93];unfold ziq at h
 have F:=And.intro I.all F
 refine bi h fun ab h aa=>?_;refine tr ?_;intros;refine cS (zkc (f_f:=128) (f_c:=[.iptr [.fn of_f of_c] 0,.iptr [.str name] 0]) clo (fun _ r h=>zpg (c0_f:=of_f) (c0_c:=of_c) I U h) aa) ?_;cases h;exact fin
theorem zyt {b:xsw} {r:Str} (h:zn3 b=some r):
  Pu prog 94 [.agg (xsu b)] (.one (.str r)):=by
 have F:=trivial;have R:=trivial
 refine pA func94 ?_;simp only[f94];unfold zn3 at h;cases h;exact fin
theorem zph {p:xsj} {name:Str} {r:Int} (h:zk9 p name=some r):
  Pu prog 62 [.agg (xso p),.one (.str name)] (.one (.int .i64 r)):=by
 have F:=trivial;have R:=trivial
 refine pA func62 ?_;simp only[f62];unfold zk9 at h;refine bi h fun U h I=>?_;refine tr ?_;intros;refine cS (zrb (of_f:=94) (of_c:=[]) clo (fun _ r h=>zyt h) I) ?_;cases h;exact fin
theorem zkt {s:List xsy} {f:(xsy->Option Bool)} {r:Int}
  {f_f:FuncId} {f_c:List C} (ab:Clo f_c) (ad:∀(x0:xsy) (r:Bool),f x0=some r->Pu prog f_f ([.agg (xsr x0)]++f_c.map V.one) (.one (.bool r))) (h:zcb s f=some r):
  Pu prog 142 [.one (.sl (s.map xsr)),.one (.fn f_f f_c)] (.one (.int .i64 r)):=by
 have F:=trivial;have R:=trivial
 refine pA func142 ?_;simp only[f142];unfold zcb at h
 have F:=And.intro ab.all F
 refine bi h fun ai h ae=>?_;refine tr ?_;intros
 refine lX ae (fun|U,_=>⟨[(0,.one (.sl (s.map xsr))),(1,.one (.fn f_f f_c)),(7,.one (.int .i64 (s.length:Int))),(8,.one (.int .i64 (U:Int)))],[]⟩) (fun|(.inl al),_=>⟨[],[]⟩|(.inr ()),_=>⟨[],[]⟩) (fun|(.inl _)=>none|(.inr _)=>some 0) ?_ ?_
 intro i3 b3 aa
 rcases ai with aj|⟨⟩
 cases aa;obtain rfl:=Wab aa;obtain⟨⟩:=b3;dsimp only at h|-;cases h;exact fin;intro af3 m3 U a3 o3 I ho3 ih3;obtain⟨⟩:=a3;dsimp only[zbw]at I|-;refine fl I F ?_ ?_<;>intro I _ F;refine bx I F fun an I ak F=>?_;refine bi I fun ao I af=>?_;refine tr ?_;intros;refine cS (ad _ _ af) ?_;refine fv I F ?_ ?_<;>intro I _ F;cases I;obtain rfl:=sr ho3
 try dsimp only at h
 cases h;exact fin;cases I;refine tt ?_;refine wn U F fun F=>?_;exact bk ih3 ho3 ();cases I;refine tt ?_;exact xt ho3 af3 ()
theorem zqf {c0:(xsy->Option Str)} {c1:Str} {x:xsy} {r:Bool}
  {c0_f:FuncId} {c0_c:List C} (I:Clo c0_c) (U:∀(x0:xsy) (r:Str),c0 x0=some r->Pu prog c0_f ([.agg (xsr x0)]++c0_c.map V.one) (.one (.str r))) (h:zic c0 c1 x=some r):
  Pu prog 143 [.agg (xsr x),.one (.iptr [.fn c0_f c0_c] 0),.one (.iptr (eS c1) 0)] (.one (.bool r)):=by
 have F:=trivial;have R:=trivial
 refine pA func143 ?_;simp only[f143];unfold zic at h
 have F:=And.intro I.all F
 refine bi h fun ab h aa=>?_;refine tr ?_;intros;refine cD (U _ _ aa) ?_;cases h;exact fin
theorem zst {l:List xsy} {name:Str} {of:(xsy->Option Str)} {r:Int}
  {of_f:FuncId} {of_c:List C} (I:Clo of_c) (U:∀(x0:xsy) (r:Str),of x0=some r->Pu prog of_f ([.agg (xsr x0)]++of_c.map V.one) (.one (.str r))) (h:zi2 l name of=some r):
  Pu prog 98 [.one (.sl (l.map xsr)),.one (.str name),.one (.fn of_f of_c)] (.one (.int .i64 r)):=by
 have F:=trivial;have R:=trivial
 refine pA func98 ?_;simp only[f98];unfold zi2 at h
 have F:=And.intro I.all F
 refine bi h fun ab h aa=>?_;refine tr ?_;intros;refine cS (zkt (f_f:=143) (f_c:=[.iptr [.fn of_f of_c] 0,.iptr [.str name] 0]) clo (fun _ r h=>zqf (c0_f:=of_f) (c0_c:=of_c) I U h) aa) ?_;cases h;exact fin
theorem zzr {s:xsy} {r:Str} (h:zpa s=some r):
  Pu prog 99 [.agg (xsr s)] (.one (.str r)):=by
 have F:=trivial;have R:=trivial
 refine pA func99 ?_;simp only[f99];unfold zpa at h;cases h;exact fin
theorem zrd {p:xsj} {name:Str} {r:Int} (h:zmq p name=some r):
  Pu prog 64 [.agg (xso p),.one (.str name)] (.one (.int .i64 r)):=by
 have F:=trivial;have R:=trivial
 refine pA func64 ?_;simp only[f64];unfold zmq at h;refine bi h fun U h I=>?_;refine tr ?_;intros;refine cS (zst (of_f:=99) (of_c:=[]) clo (fun _ r h=>zzr h) I) ?_;cases h;exact fin
theorem zl7 {l:xsn} {a:Int} {r:Bool} (h:zko l a=some r):
  Pu prog 169 [.agg (xs3 l),.one (.int .i64 a)] (.one (.bool r)):=by
 have F:=trivial;have R:=trivial
 refine pA func169 ?_;simp only[f169];unfold zko at h;refine fi h F ?_ ?_<;>intro h _ F;cases h;exact fin;cases h;exact fin
theorem znp {l:xsn} {a:Int} {r:List Bool} (h:zjo l a=some r):
  Pu prog 170 [.agg (xs3 l),.one (.int .i64 a)] (.one (.sl (r.map eB))):=by
 have F:=trivial;have R:=trivial
 refine pA func170 ?_;simp only[f170];unfold zjo at h;refine nd h F fun h F=>?_
 have R:=And.intro (show List.replicate l.Names.length [.bool false]=List.map eB (List.replicate l.Names.length false) by simp[go_sem]) R
 refine by_ h F fun a4 h aX F=>?_;refine ln F fun F=>?_
 have R:=And.intro (show(List.map eB (List.replicate l.Names.length false)).set a.toNat [.bool true]=List.map eB ((List.replicate l.Names.length false).set a.toNat true) by simp[go_sem,WaL]) R
 refine bi h fun aO h aK=>?_;refine tr ?_;intros
 refine lE (fun(az:(List Bool)×(List Int)) (aA:Nat×(List Int))=>match az,aA with|(au,aa),(ax,U)=>⟨[(2,.one (.ref 0 0 0 0)),(5,.one (.msl 1 0 0 au.length)),(6,.one (.msl 2 ax U.length (U.length+aa.length)))],[.cells 0 2 [(eQ_ l)],.cells 0 1 (au.map eB),.cells ax 1 ((U++aa).map eI)]⟩) (fun(aB:(List Bool)×(List Int)) (aC:Nat×(List Int))=>match aB,aC with|(an,ar),(aD,ay)=>⟨[(5,.one (.msl 1 0 0 an.length))],[.cells 0 2 [(eQ_ l)],.cells 0 1 (an.map eB),.cells aD 1 ((ay++ar).map eI)]⟩) (fun(_:(List Bool)×(List Int))=>some 0) (0,([]:List Int)) aK ?_ ?_
 intro i8 b8 aP;obtain rfl:=Wab aP;obtain⟨an,ar⟩:=aO;obtain⟨aD,ay⟩:=b8;dsimp only at h|-;cases h;exact fin;intro aQ m8 s8 a8 o8 ad aI aR;obtain⟨au,aa⟩:=s8;obtain⟨ax,U⟩:=a8;dsimp only[zjr]at ad|-;refine tr ?_;intros;refine fi ad F ?_ ?_<;>intro ad _ F;refine bx ad F fun aJ ad aE F=>?_
 have R:=And.intro (show(U++aa)[U.length]? =some aJ from yp0 aE) (And.intro (show U.length<(U++aa).length from q_lt aE) R)
 refine nd ad F fun ad F=>?_
 have R:=And.intro (show List.drop (U.length+1) (List.map eI (U++aa))=List.map eI (aa.drop 1)from yk2 _ _ _ _) R
 refine bi ad fun aL ad aG=>?_;refine tr ?_;intros
 refine lE (fun(az:(List Bool)×(List Int)×Nat) (aA:Nat×(List Int))=>match az,aA with|(ae,aj,ak),(af,ab)=>⟨[(2,.one (.ref 0 0 0 0)),(5,.one (.msl 1 0 0 ae.length)),(6,.one (.msl 2 af ab.length (ab.length+aj.length))),(7,.one (.int .i64 aJ)),(28,.one (.sl (l.Below.map (eA2 eI)))),(29,.one (.int .i64 (l.Below.length:Int))),(30,.one (.int .i64 (ak:Int)))],[.cells 0 2 [(eQ_ l)],.cells 0 1 (ae.map eB),.cells af 1 ((ab++aj).map eI)]⟩) (fun(aB:(List Bool)×(List Int)) (aC:Nat×(List Int))=>match aB,aC with|(ao,al),(av,ai)=>⟨[(2,.one (.ref 0 0 0 0)),(5,.one (.msl 1 0 0 ao.length)),(6,.one (.msl 2 av ai.length (ai.length+al.length)))],[.cells 0 2 [(eQ_ l)],.cells 0 1 (ao.map eB),.cells av 1 ((ai++al).map eI)]⟩) (fun(_:(List Bool)×(List Int))=>some 2) (ax,(U++aa.take 1)) aG ?_ ?_
 intro i19 aS aM;obtain rfl:=Wab aM;obtain⟨ao,al⟩:=aL;obtain⟨av,ai⟩:=aS;dsimp only at ad|-;cases ad;refine tt ?_;exact bk aR aI (av,ai);intro aN a5 aT aU a6 I aq aw;obtain⟨ae,aj,ak⟩:=aT;obtain⟨af,ab⟩:=aU;dsimp only[zjq]at I|-;refine fl I F ?_ ?_<;>intro I _ F;refine bx I F fun aF I aV F=>?_;refine tr ?_;intros;refine fi I F ?_ ?_<;>intro I _ F;refine bi I fun aY I aH=>?_
 refine tr ?_;intros;refine cS (zl7 aH) ?_;refine fv I F ?_ ?_<;>intro I _ F;refine by_ I F fun aZ I aW F=>?_;refine tr ?_;intros;refine fv I F ?_ ?_<;>intro I _ F;cases I;refine tt ?_;refine wn ak F fun F=>?_;exact bk aw aq (af,ab)
 have R:=And.intro (show(List.map eB ae).set aF.a1.toNat [.bool true]=List.map eB (ae.set aF.a1.toNat true) by simp[go_sem,WaL]) R
 refine nd I F fun I F=>?_;cases I;refine tr ?_;intros;refine wn ak F fun F=>?_;exact bk aw aq ((af+1),[]);cases I;refine tt ?_;refine wn ak F fun F=>?_;exact bk aw aq (af,ab);cases I;refine tt ?_;refine wn ak F fun F=>?_;exact bk aw aq (af,ab);cases I;refine tt ?_;exact xt aq aN (af,ab);cases ad;refine tt ?_;exact xt aI aQ (ax,U)
theorem zui {l:xsn} {of:(Int->Option Bool)} {ahead:(Int->Int->Option Bool)} {r:Int}
  {of_f:FuncId} {of_c:List C} (aj:Clo of_c) (ae:∀(x0:Int) (r:Bool),of x0=some r->Pu prog of_f ([.one (.int .i64 x0)]++of_c.map V.one) (.one (.bool r)))
  {ahead_f:FuncId} {ahead_c:List C} (ab:Clo ahead_c) (ad:∀(x0:Int) (x1:Int) (r:Bool),ahead x0 x1=some r->Pu prog ahead_f ([.one (.int .i64 x0),.one (.int .i64 x1)]++ahead_c.map V.one) (.one (.bool r))) (h:zlo l of ahead=some r):
  Pu prog 171 [.agg (xs3 l),.one (.fn of_f of_c),.one (.fn ahead_f ahead_c)] (.one (.int .i64 r)):=by
 have F:=trivial;have R:=trivial
 refine pA func171 ?_;simp only[f171];unfold zlo at h
 have F:=And.intro aj.all F
 have F:=And.intro ab.all F
 refine bi h fun ax h aq=>?_;refine tr ?_;intros
 refine lX aq (fun|aa,_=>⟨[(1,.one (.fn of_f of_c)),(2,.one (.fn ahead_f ahead_c)),(3,.one (.ref 0 0 0 0)),(11,.one (.int .i64 (l.Names.length:Int))),(12,.one (.int .i64 (aa:Int)))],[.cells 0 2 [(eQ_ l)]]⟩) (fun|(.inl aA),_=>⟨[],[]⟩|(.inr ()),_=>⟨[],[.cells 0 2 [(eQ_ l)]]⟩) (fun|(.inl _)=>none|(.inr _)=>some 0) ?_ ?_
 intro i3 b3 ak
 rcases ax with ay|⟨⟩
 cases ak;obtain rfl:=Wab ak;obtain⟨⟩:=b3;dsimp only at h|-;cases h;exact fin;intro af3 m3 aa a3 o3 I ho3 ih3;obtain⟨⟩:=a3;dsimp only[zkj]at I|-;refine fl I F ?_ ?_<;>intro I _ F;refine bi I fun aB I ar=>?_;refine tr ?_;intros;refine cS (ae _ _ ar) ?_;refine fv I F ?_ ?_<;>intro I _ F;refine bi I fun az I au=>?_;refine tr ?_;intros
 refine lX au (fun|af,_=>⟨[(1,.one (.fn of_f of_c)),(2,.one (.fn ahead_f ahead_c)),(3,.one (.ref 0 0 0 0)),(7,.one (.int .i64 (aa:Int))),(11,.one (.int .i64 (l.Names.length:Int))),(12,.one (.int .i64 (aa:Int))),(21,.one (.int .i64 (l.Names.length:Int))),(22,.one (.int .i64 (af:Int)))],[.cells 0 2 [(eQ_ l)]]⟩) (fun|(.inl ()),_=>⟨[(1,.one (.fn of_f of_c)),(2,.one (.fn ahead_f ahead_c)),(3,.one (.ref 0 0 0 0)),(11,.one (.int .i64 (l.Names.length:Int))),(12,.one (.int .i64 (aa:Int)))],[.cells 0 2 [(eQ_ l)]]⟩|(.inr ()),_=>⟨[(7,.one (.int .i64 (aa:Int)))],[.cells 0 2 [(eQ_ l)]]⟩) (fun|(.inl _)=>some 1|(.inr _)=>some 2) ?_ ?_
 intro i7 b7 al
 rcases az with⟨⟩|⟨⟩
 obtain rfl:=Wab al;obtain⟨⟩:=b7;dsimp only at I|-;cases I;refine tt ?_;refine wn aa F fun F=>?_;exact bk ih3 ho3 ();obtain rfl:=Wab al;obtain⟨⟩:=b7;dsimp only at I|-;cases I;obtain rfl:=sr ho3
 try dsimp only at h
 cases h;exact fin;intro an m7 af a7 o7 U ai ao;obtain⟨⟩:=a7;dsimp only[ziv]at U|-;refine fl U F ?_ ?_<;>intro U _ F;refine bi U fun aC U av=>?_;refine tr ?_;intros;refine cS (ae _ _ av) ?_;refine fv U F ?_ ?_<;>intro U _ F;refine bi U fun aD U aw=>?_;refine tr ?_;intros;refine cS (ad _ _ _ aw) ?_;refine fv U F ?_ ?_<;>intro U _ F;cases U;refine tt ?_;refine wn af F fun F=>?_;exact bk ao ai ()
 cases U;refine tt ?_;exact xt ai an ();cases U;refine tt ?_;refine wn af F fun F=>?_;exact bk ao ai ();cases U;refine tt ?_;exact xt ai an ();cases I;refine tt ?_;refine wn aa F fun F=>?_;exact bk ih3 ho3 ();cases I;refine tt ?_;exact xt ho3 af3 ()
theorem zxs {I:List Bool} {c1:List Bool} {c:Int} {r:Bool} (h:zm2 I c1 c=some r):
  Pu prog 172 [.one (.int .i64 c),.one (.iptr ((eL eB) I) 0),.one (.iptr ((eL eB) c1) 0)] (.one (.bool r)):=by
 have F:=trivial;have R:=trivial
 refine pA func172 ?_;simp only[f172];unfold zm2 at h;refine by_ h F fun ab h U F=>?_;refine tr ?_;intros;refine fv h F ?_ ?_<;>intro h _ F;refine by_ h F fun ad h aa F=>?_;cases h;exact fin;cases h;exact fin
theorem zvo {l:xsn} {a:Int} {b:Int} {r:Bool} (h:zmt l a b=some r):
  Pu prog 174 [.agg (xs3 l),.one (.int .i64 a),.one (.int .i64 b)] (.one (.bool r)):=by
 have F:=trivial;have R:=trivial
 refine pA func174 ?_;simp only[f174];unfold zmt at h;refine bi h fun ad h I=>?_;refine tr ?_;intros;refine cS (zl7 I) ?_;refine fv h F ?_ ?_<;>intro h _ F;refine bi h fun ae h U=>?_;refine tr ?_;intros;refine cS (zl7 U) ?_;refine fv h F ?_ ?_<;>intro h _ F;refine bi h fun af h aa=>?_;refine tr ?_;intros;refine cS (znp aa) ?_;refine by_ h F fun ai h ab F=>?_;cases h;exact fin;cases h;exact fin
 cases h;exact fin
theorem zxr {U:xsn} {c:Int} {d:Int} {r:Bool} (h:zm1 U c d=some r):
  Pu prog 173 [.one (.int .i64 c),.one (.int .i64 d),.one (.iptr (xs3 U) 0)] (.one (.bool r)):=by
 have F:=trivial;have R:=trivial
 refine pA func173 ?_;simp only[f173];unfold zm1 at h;refine bi h fun aa h I=>?_;refine tr ?_;intros;refine cS (zvo I) ?_;cases h;exact fin
theorem zuj {l:xsn} {a:Int} {b:Int} {r:Int} (h:zlp l a b=some r):
  Pu prog 148 [.agg (xs3 l),.one (.int .i64 a),.one (.int .i64 b)] (.one (.int .i64 r)):=by
 have F:=trivial;have R:=trivial
 refine pA func148 ?_;simp only[f148];unfold zlp at h;refine bi h fun ai h I=>?_;refine tr ?_;intros;refine cS (zl7 I) ?_;refine fv h F ?_ ?_<;>intro h _ F;refine bi h fun aj h U=>?_;refine tr ?_;intros;refine cS (zl7 U) ?_;refine fv h F ?_ ?_<;>intro h _ F;refine bi h fun ae h aa=>?_;refine tr ?_;intros;refine cD (znp aa) ?_;refine bi h fun af h ab=>?_;refine tr ?_;intros;refine cD (znp ab) ?_
 refine bi h fun ak h ad=>?_;refine tr ?_;intros;refine cS (zui (of_f:=172) (of_c:=[.iptr [.sl (ae.map eB)] 0,.iptr [.sl (af.map eB)] 0]) clo (fun _ r h=>zxs h) (ahead_f:=173) (ahead_c:=[.iptr (eQ_ l) 0]) clo (fun _ _ r h=>zxr h) ad) ?_;cases h;exact fin;cases h;exact fin;cases h;exact fin
theorem zyw {d:flow_desk} {labels:List Int} {r:List Int} (h:zn5 d labels=some r):
  Pu prog 175 [.agg (zap d),.one (.sl (labels.map eI))] (.one (.sl (r.map eI))):=by
 have F:=trivial;have R:=trivial
 refine pA func175 ?_;simp only[f175];unfold zn5 at h;refine bi h fun aj h ay=>?_;refine tr ?_;intros;refine zwf 5 1 (by simp[go_sem]) ?_
 refine lE (fun(ak:(List Int)×Nat) (al:Nat)=>match ak,al with|(an,ai),ab=>⟨[(1,.one (.sl (labels.map eI))),(2,.one (.ref 0 0 0 0)),(5,.one (.msl 1 ab 0 an.length)),(17,.one (.int .i64 (w64 ((d.p.Vars.length:Int)+(d.p.Blocks.length:Int))))),(18,.one (.int .i64 (ai:Int)))],[.cells 0 6 [[.sl (d.p.Lattice.Names.map eS),.sl (d.p.Lattice.Below.map (eA2 eI)),.sl (d.p.Sites.map xsr),.sl (d.p.Vars.map xst),.sl (d.p.Blocks.map xsu),.sl (d.p.Tasks.map xsv)]],.cells ab 1 (an.map eI)]⟩) (fun(ao:List Int) (aq:Nat)=>match ao,aq with|aj,b6=>⟨[(2,.one (.ref 0 0 0 0)),(5,.one (.msl 1 b6 0 aj.length))],[.cells 0 6 [[.sl (d.p.Lattice.Names.map eS),.sl (d.p.Lattice.Below.map (eA2 eI)),.sl (d.p.Sites.map xsr),.sl (d.p.Vars.map xst),.sl (d.p.Blocks.map xsu),.sl (d.p.Tasks.map xsv)]],.cells b6 1 (aj.map eI)]⟩) (fun(_:List Int)=>some 0) 0 ay ?_ ?_
 intro i6 b6 aC;obtain rfl:=Wab aC;dsimp only at h|-;refine bi h fun ad h aw=>?_;refine tr ?_;intros
 refine lE (fun(ak:(List Int)×Nat) (al:Nat)=>match ak,al with|(ae,af),aa=>⟨[(5,.one (.msl 1 aa 0 ae.length)),(38,.one (.sl (d.p.Sites.map xsr))),(39,.one (.int .i64 (d.p.Sites.length:Int))),(40,.one (.int .i64 (af:Int)))],[.cells 0 6 [[.sl (d.p.Lattice.Names.map eS),.sl (d.p.Lattice.Below.map (eA2 eI)),.sl (d.p.Sites.map xsr),.sl (d.p.Vars.map xst),.sl (d.p.Blocks.map xsu),.sl (d.p.Tasks.map xsv)]],.cells aa 1 (ae.map eI)]⟩) (fun(ao:List Int) (aq:Nat)=>match ao,aq with|ad,ar=>⟨[(5,.one (.msl 1 ar 0 ad.length))],[.cells 0 6 [[.sl (d.p.Lattice.Names.map eS),.sl (d.p.Lattice.Below.map (eA2 eI)),.sl (d.p.Sites.map xsr),.sl (d.p.Vars.map xst),.sl (d.p.Blocks.map xsu),.sl (d.p.Tasks.map xsv)]],.cells ar 1 (ad.map eI)]⟩) (fun(_:List Int)=>some 2) b6 aw ?_ ?_
 intro i16 ar az;obtain rfl:=Wab az;dsimp only at h|-;cases h;exact fin;intro aA aI aD aa aJ U au aB;obtain⟨ae,af⟩:=aD;dsimp only[zso]at U|-;refine fl U F ?_ ?_<;>intro U _ F;refine bx U F fun aG U aF F=>?_;refine nd U F fun U F=>?_;cases U;refine tr ?_;intros;refine wn af F fun F=>?_;exact bk aB au (aa+1);cases U;refine tt ?_;exact xt au aA aa;intro aE m6 s6 ab o6 I av ax;obtain⟨an,ai⟩:=s6
 dsimp only[zsp]at I|-;refine fi I F ?_ ?_<;>intro I _ F;refine tr ?_;intros;refine fl I F ?_ ?_<;>intro I _ F;refine bx I F fun aK I aH F=>?_;refine nd I F fun I F=>?_;cases I;refine tr ?_;intros
 have F:=And.intro (z1d ((d.p.Vars.length:Int)+(d.p.Blocks.length:Int))) F
 refine wn ai F fun F=>?_;exact bk ax av (ab+1);refine nd I F fun I F=>?_;cases I;refine tr ?_;intros
 have F:=And.intro (z1d ((d.p.Vars.length:Int)+(d.p.Blocks.length:Int))) F
 refine wn ai F fun F=>?_;exact bk ax av (ab+1);cases I;refine tt ?_;exact xt av aE ab
theorem zwx {d:flow_desk} {name:Str} {r:Int} (h:zl9 d name=some r):
  Pu prog 203 [.agg (zap d),.one (.str name)] (.one (.int .i64 r)):=by
 have F:=trivial;have R:=trivial
 refine pA func203 ?_;simp only[f203];unfold zl9 at h;refine bi h fun U h I=>?_;refine tr ?_;intros;refine cD (zph I) ?_;cases h;exact fin
theorem zz3 {d:flow_desk} {name:Str} {r:Int} (h:zpb d name=some r):
  Pu prog 204 [.agg (zap d),.one (.str name)] (.one (.int .i64 r)):=by
 have F:=trivial;have R:=trivial
 refine pA func204 ?_;simp only[f204];unfold zpb at h;refine bi h fun U h I=>?_;refine tr ?_;intros;refine cD (zrd I) ?_;cases h;exact fin
theorem z0m {p0:Int} {r:Bool} (h:zv5 p0=some r):
  Pu prog 205 [.one (.int .i64 p0)] (.one (.bool r)):=by
 have F:=trivial;have R:=trivial
 refine pA func205 ?_;simp only[f205];unfold zv5 at h;cases h;exact fin
theorem zv6 {U:xsn} {c:Int} {d:Int} {r:Bool} (h:zk5 U c d=some r):
  Pu prog 206 [.one (.int .i64 c),.one (.int .i64 d),.one (.iptr (xs3 U) 0)] (.one (.bool r)):=by
 have F:=trivial;have R:=trivial
 refine pA func206 ?_;simp only[f206];unfold zk5 at h;refine bi h fun aa h I=>?_;refine tr ?_;intros;refine cS (zvo I) ?_;cases h;exact fin
theorem zxt {l:xsn} {r:Int} (h:zk3 l=some r):
  Pu prog 195 [.agg (xs3 l)] (.one (.int .i64 r)):=by
 have F:=trivial;have R:=trivial
 refine pA func195 ?_;simp only[f195];unfold zk3 at h;refine bi h fun U h I=>?_;refine tr ?_;intros;refine cS (zui (of_f:=205) (of_c:=[]) clo (fun _ r h=>z0m h) (ahead_f:=206) (ahead_c:=[.iptr (eQ_ l) 0]) clo (fun _ _ r h=>zv6 h) I) ?_;cases h;exact fin
theorem z2v {l:xsn} {U:List Int} {r:Int} (h:ztr l U=some r):
  Pu prog 177 [.agg (xs3 l),.one (.sl (U.map eI))] (.one (.int .i64 r)):=by
 have F:=trivial;have R:=trivial
 refine pA func177 ?_;simp only[f177];unfold ztr at h;refine bi h fun au h ai=>?_;refine tr ?_;intros;refine cS (zxt ai) ?_;refine bi h fun al h aj=>?_;refine tr ?_;intros
 refine lX aj (fun|(ad,ab),_=>⟨[(2,.one (.ref 0 0 0 0)),(5,.one (.int .i64 ad)),(10,.one (.sl (U.map eI))),(11,.one (.int .i64 (U.length:Int))),(12,.one (.int .i64 (ab:Int)))],[.cells 0 2 [(eQ_ l)]]⟩) (fun|(.inl av),_=>⟨[],[]⟩|(.inr ae),_=>⟨[(5,.one (.int .i64 ae))],[.cells 0 2 [(eQ_ l)]]⟩) (fun|(.inl _)=>none|(.inr _)=>some 0) ?_ ?_
 intro i5 b5 af
 rcases al with an|ae
 cases af;obtain rfl:=Wab af;obtain⟨⟩:=b5;dsimp only at h|-;cases h;exact fin;intro ao m5 s5 a5 o5 I aa aq;obtain⟨ad,ab⟩:=s5;obtain⟨⟩:=a5;dsimp only[zo8]at I|-;refine fl I F ?_ ?_<;>intro I _ F;refine bx I F fun aw I ar F=>?_;refine tr ?_;intros;refine fi I F ?_ ?_<;>intro I _ F;cases I;obtain rfl:=sr aa
 try dsimp only at h
 cases h;exact fin;refine fi I F ?_ ?_<;>intro I _ F;cases I;obtain rfl:=sr aa
 try dsimp only at h
 cases h;exact fin;refine tr ?_;intros;refine fi I F ?_ ?_<;>intro I _ F;cases I;obtain rfl:=sr aa
 try dsimp only at h
 cases h;exact fin;refine bi I fun ax I ak=>?_;refine tr ?_;intros;refine cS (zuj ak) ?_;cases I;refine tt ?_;refine wn ab F fun F=>?_;exact bk aq aa ();cases I;refine tt ?_;exact xt aa ao ()
end Go.Lz

end
section
namespace Go.Lz
open Go.Proofs
attribute [-go_sem] zna g_b gd_b
set_option maxRecDepth 100000
set_option maxHeartbeats 4000000
noncomputable section
def zhh (t:xsz):Option Int:=
 (zbz t).bind fun I=>if I=0 then(some (maxI t.Len 1))else(some 0)
def ze0 (kind:Int):Option Int:=
 if kind=1 then(some 1)else(if kind=2 then(some 16)else(if kind=3 then(some 32)else(if kind=4 then(some 32)else(some 0))))
def zmy (t:xsz):Option Int:=
 if(-32768)<=t.Low then((ze0 t.Kind).bind fun I=>if I=0 then(some 6)else(if t.Len<0 then(some 6)else(if 32<t.Len then(some 6)else(if t.Low<32768 then(if t.Len=0 then(if t.Low=0 then(some 0)else(some 6))else(some 0))else(some 6)))))else((ze0 t.Kind).bind fun U=>if U=0 then(some 6)else(if t.Len<0 then(some 6)else(if 32<t.Len then(some 6)else(some 6))))
def zq3 (t:xsz):Option Int:=
 (zmy t).bind fun I=>if I=0 then(some (maxI t.Len 1))else(some 0)
end
theorem zth {t:xsz} {r:Int} (h:zhh t=some r):
  Pu prog 27 [.agg (xs7 t)] (.one (.int .i64 r)):=by
 have F:=trivial;have R:=trivial
 refine pA func27 ?_;simp only[f27];unfold zhh at h;refine bi h fun U h I=>?_;refine tr ?_;intros;refine cS (zjn I) ?_;refine fi h F ?_ ?_<;>intro h _ F;cases h;exact fin;cases h;exact fin
theorem ziz {kind:Int} {r:Int} (h:ze0 kind=some r):
  Pu prog 140 [.one (.int .i64 kind)] (.one (.int .i64 r)):=by
 have F:=trivial;have R:=trivial
 refine pA func140 ?_;simp only[f140];unfold ze0 at h;refine fi h F ?_ ?_<;>intro h _ F;cases h;exact fin;refine fi h F ?_ ?_<;>intro h _ F;cases h;exact fin;refine tt ?_;refine fi h F ?_ ?_<;>intro h _ F;cases h;exact fin;refine fi h F ?_ ?_<;>intro h _ F;cases h;exact fin;cases h;exact fin
theorem zvs {t:xsz} {r:Int} (h:zmy t=some r):
  Pu prog 126 [.agg (xs7 t)] (.one (.int .i64 r)):=by
 have F:=trivial;have R:=trivial
 refine pA func126 ?_;simp only[f126];unfold zmy at h;refine fi h F ?_ ?_<;>intro h _ F;refine bi h fun aa h I=>?_;refine tr ?_;intros;refine cS (ziz I) ?_;refine fi h F ?_ ?_<;>intro h _ F;cases h;exact fin;refine tt ?_;refine fi h F ?_ ?_<;>intro h _ F;cases h;exact fin;refine fi h F ?_ ?_<;>intro h _ F;cases h;exact fin;refine tt ?_;refine fi h F ?_ ?_<;>intro h _ F;refine fi h F ?_ ?_<;>intro h _ F
 refine tt ?_;refine fi h F ?_ ?_<;>intro h _ F;cases h;exact fin;cases h;exact fin;cases h;exact fin;cases h;exact fin;refine bi h fun ab h U=>?_;refine tr ?_;intros;refine cS (ziz U) ?_;refine fi h F ?_ ?_<;>intro h _ F;cases h;exact fin;refine tt ?_;refine fi h F ?_ ?_<;>intro h _ F;cases h;exact fin;refine fi h F ?_ ?_<;>intro h _ F;cases h;exact fin;cases h;exact fin
theorem z2k {t:xsz} {r:Int} (h:zq3 t=some r):
  Pu prog 123 [.agg (xs7 t)] (.one (.int .i64 r)):=by
 have F:=trivial;have R:=trivial
 refine pA func123 ?_;simp only[f123];unfold zq3 at h;refine bi h fun U h I=>?_;refine tr ?_;intros;refine cS (zvs I) ?_;refine fi h F ?_ ?_<;>intro h _ F;cases h;exact fin;cases h;exact fin
end Go.Lz

end
section
namespace Go.Lz
open Go.Proofs
attribute [-go_sem] zna g_b gd_b
set_option maxRecDepth 100000
set_option maxHeartbeats 4000000
noncomputable section
def zox (t:xsz) (cells:List Int) (i:Int):Option (Int×Bool):=
 (zmy t).bind fun I=>if I=0 then((zq3 t).bind fun U=>if(cells.length:Int)=U then(if t.Len=0 then(some (0,true))else(if t.Low<=i then(some ((w64 (i-t.Low)),(decide (i<(w64 (t.Low+t.Len))))))else(some ((w64 (i-t.Low)),false))))else(some (0,false)))else(some (0,false))
def zq4 (t:xsz) (cells:List Int) (i:Int):Option (Int×Int):=
 (zox t cells i).bind fun I=>if I.2=true then((idx cells I.1).bind fun U=>some (U,0))else(some (0,2))
def zbq (b:Bool):Option Int:=
 if b=true then(some 1)else(some 0)
def zc2 (name:Str):Option blocks_kind:=
 if name=([84,79,78]:Str)then(some (⟨[1,4],[1,4],(some 130)⟩:blocks_kind))else(if name=([84,79,70]:Str)then(some (⟨[1,4],[1,4],(some 131)⟩:blocks_kind))else(if name=([84,80]:Str)then(some (⟨[1,4],[1,4],(some 132)⟩:blocks_kind))else(if name=([67,84,85]:Str)then(some (⟨[1,1,2],[1,2],(some 133)⟩:blocks_kind))else(if name=([67,84,68]:Str)then(some (⟨[1,1,2],[1,2],(some 134)⟩:blocks_kind))else(if name=([67,84,85,68]:Str)then(some (⟨[1,1,1,1,2],[1,1,2],(some 135)⟩:blocks_kind))else(if name=([82,95,84,82,73,71]:Str)then(some (⟨[1],[1],(some 136)⟩:blocks_kind))else(if name=([70,95,84,82,73,71]:Str)then(some (⟨[1],[1],(some 137)⟩:blocks_kind))else(if name=([83,82]:Str)then(some (⟨[1,1],[1],(some 138)⟩:blocks_kind))else(if name=([82,83]:Str)then(some (⟨[1,1],[1],(some 139)⟩:blocks_kind))else(some (⟨[],[],none⟩:blocks_kind)))))))))))
def zl8 (b:Bool):Option Int:=
 if b=true then(some 1)else(some 0)
def za9 (kind:Int) (n:Int):Option Int:=
 some (zp9 kind n)
def ziy (name:Str) (s:A4 Int) (i:Int):Option Int:=
 if name=([84,79,78]:Str)then(if i<0 then(some 0)else(if 2<=i then(some 0)else(if name=([67,84,85,68]:Str)then((zbq (decide (s.a3<=s.a0))).bind fun bg=>(zbq (decide (s.a0<=0))).bind fun bh=>(zc2 name).bind fun bj=>(bj.out[2]?).bind fun bl=>(za9 bl s.a0).bind fun bm=>if i=0 then(some bg)else(if i=1 then(some bh)else(if i=2 then(some bm)else none)))else(if i=0 then((zbq (!(decide (s.a0=0)))).bind fun bn=>some bn)else((zc2 name).bind fun bo=>(idx bo.out i).bind fun bp=>(za9 bp s.a1).bind fun bq=>some bq)))))else(if name=([84,79,70]:Str)then(if i<0 then(some 0)else(if 2<=i then(some 0)else(if name=([67,84,85,68]:Str)then((zbq (decide (s.a3<=s.a0))).bind fun I=>(zbq (decide (s.a0<=0))).bind fun U=>(zc2 name).bind fun aa=>(aa.out[2]?).bind fun ab=>(za9 ab s.a0).bind fun ad=>if i=0 then(some I)else(if i=1 then(some U)else(if i=2 then(some ad)else none)))else(if i=0 then((zbq (!(decide (s.a0=0)))).bind fun ae=>some ae)else((zc2 name).bind fun af=>(idx af.out i).bind fun ai=>(za9 ai s.a1).bind fun aj=>some aj)))))else(if name=([84,80]:Str)then(if i<0 then(some 0)else(if 2<=i then(some 0)else(if name=([67,84,85,68]:Str)then((zbq (decide (s.a3<=s.a0))).bind fun ak=>(zbq (decide (s.a0<=0))).bind fun al=>(zc2 name).bind fun an=>(an.out[2]?).bind fun ao=>(za9 ao s.a0).bind fun aq=>if i=0 then(some ak)else(if i=1 then(some al)else(if i=2 then(some aq)else none)))else(if i=0 then((zbq (!(decide (s.a0=0)))).bind fun ar=>some ar)else((zc2 name).bind fun au=>(idx au.out i).bind fun av=>(za9 av s.a1).bind fun aw=>some aw)))))else(if name=([67,84,85]:Str)then(if i<0 then(some 0)else(if 2<=i then(some 0)else(if name=([67,84,85,68]:Str)then((zbq (decide (s.a3<=s.a0))).bind fun ax=>(zbq (decide (s.a0<=0))).bind fun ay=>(zc2 name).bind fun az=>(az.out[2]?).bind fun aA=>(za9 aA s.a0).bind fun aB=>if i=0 then(some ax)else(if i=1 then(some ay)else(if i=2 then(some aB)else none)))else(if i=0 then((zbq (!(decide (s.a0=0)))).bind fun aC=>some aC)else((zc2 name).bind fun aD=>(idx aD.out i).bind fun aE=>(za9 aE s.a1).bind fun aF=>some aF)))))else(if name=([67,84,68]:Str)then(if i<0 then(some 0)else(if 2<=i then(some 0)else(if name=([67,84,85,68]:Str)then((zbq (decide (s.a3<=s.a0))).bind fun aG=>(zbq (decide (s.a0<=0))).bind fun aH=>(zc2 name).bind fun aI=>(aI.out[2]?).bind fun aJ=>(za9 aJ s.a0).bind fun aK=>if i=0 then(some aG)else(if i=1 then(some aH)else(if i=2 then(some aK)else none)))else(if i=0 then((zbq (!(decide (s.a0=0)))).bind fun aL=>some aL)else((zc2 name).bind fun aM=>(idx aM.out i).bind fun aN=>(za9 aN s.a1).bind fun aO=>some aO)))))else(if name=([67,84,85,68]:Str)then(if i<0 then(some 0)else(if 3<=i then(some 0)else((zbq (decide (s.a3<=s.a0))).bind fun aP=>(zbq (decide (s.a0<=0))).bind fun aQ=>(zc2 name).bind fun aR=>(aR.out[2]?).bind fun aS=>(za9 aS s.a0).bind fun aT=>if i=0 then(some aP)else(if i=1 then(some aQ)else(if i=2 then(some aT)else none)))))else(if name=([82,95,84,82,73,71]:Str)then(if i<0 then(some 0)else(if 1<=i then(some 0)else(if i=0 then((zbq (!(decide (s.a0=0)))).bind fun aU=>some aU)else((zc2 name).bind fun aV=>(idx aV.out i).bind fun aW=>(za9 aW s.a1).bind fun aX=>some aX))))else(if name=([70,95,84,82,73,71]:Str)then(if i<0 then(some 0)else(if 1<=i then(some 0)else(if i=0 then((zbq (!(decide (s.a0=0)))).bind fun aY=>some aY)else((zc2 name).bind fun aZ=>(idx aZ.out i).bind fun a4=>(za9 a4 s.a1).bind fun a5=>some a5))))else(if name=([83,82]:Str)then(if i<0 then(some 0)else(if 1<=i then(some 0)else(if i=0 then((zbq (!(decide (s.a0=0)))).bind fun a6=>some a6)else((zc2 name).bind fun a7=>(idx a7.out i).bind fun a8=>(za9 a8 s.a1).bind fun a9=>some a9))))else(if name=([82,83]:Str)then(if i<0 then(some 0)else(if 1<=i then(some 0)else(if i=0 then((zbq (!(decide (s.a0=0)))).bind fun ba=>some ba)else((zc2 name).bind fun bb=>(idx bb.out i).bind fun bc=>(za9 bc s.a1).bind fun bf=>some bf))))else(if i<0 then(some 0)else(if 0<=i then(some 0)else none)))))))))))
def zjp (op:Int) (kind:Int):Option Int:=
 (ze0 kind).bind fun I=>if I=0 then(some 0)else(if op=5 then(if kind=1 then(some 0)else(some kind))else(if op=7 then(if kind=1 then(some 0)else(some kind))else(if op=8 then(if kind=1 then(some 0)else(some kind))else(if op=9 then(if kind=1 then(some 0)else(some kind))else(if op=10 then(if kind=1 then(some 0)else(some kind))else(if op=11 then(if kind=1 then(some 0)else(some kind))else(if op=6 then(if kind=4 then(some 0)else(some kind))else(if op=18 then(if kind=4 then(some 0)else(some kind))else(if op=19 then(if kind=4 then(some 0)else(some kind))else(if op=20 then(if kind=4 then(some 0)else(some kind))else(if op=12 then(some 1)else(if op=13 then(some 1)else(if op=14 then(if kind=1 then(some 0)else(some 1))else(if op=15 then(if kind=1 then(some 0)else(some 1))else(if op=16 then(if kind=1 then(some 0)else(some 1))else(if op=17 then(if kind=1 then(some 0)else(some 1))else(some 0)))))))))))))))))
def zm6 (name:Str):Option (List Int):=
 if name=([84,79,78]:Str)then(some [1,4])else(if name=([84,79,70]:Str)then(some [1,4])else(if name=([84,80]:Str)then(some [1,4])else(if name=([67,84,85]:Str)then(some [1,2])else(if name=([67,84,68]:Str)then(some [1,2])else(if name=([67,84,85,68]:Str)then(some [1,1,2])else(if name=([82,95,84,82,73,71]:Str)then(some [1])else(if name=([70,95,84,82,73,71]:Str)then(some [1])else(if name=([83,82]:Str)then(some [1])else(if name=([82,83]:Str)then(some [1])else(some []))))))))))
def zd3 (s:List Int) (f:(Int->Option Bool)):Nat->Option ((Nat)⊕(Int⊕Unit))
 |I=>if(I:Int)<(s.length:Int)then((s[I]?).bind fun U=>(f U).bind fun aa=>if aa=true then(some (.inr (.inl ((I:Int)))))else(some (.inl (I+1))))else(some (.inr (.inr (()))))
def zfn (s:List Int) (f:(Int->Option Bool)):Option Int:=
 (loop (zd3 s f) 0).bind (fun I=>match I with|(.inl U)=>some U|(.inr ())=>some (-1))
def zco (s:List Int) (f:(Int->Option Bool)):Option Bool:=
 (zfn s f).bind fun I=>some (decide (0<=I))
def zlv (U:List Int) (k:Int):Option Bool:=
 (U[0]?).bind fun I=>some (!(decide (k=I)))
def zdj (I:xsj->xsk->Option Int) (p:xsj) (e:xsk):((List Int)×Nat)->Option (((List Int)×Nat)⊕(List Int))
 |(aa,U)=>if(U:Int)<(e.Args.length:Int)then((e.Args[U]?).bind fun ab=>(I p ab).bind fun ad=>(aa[U]?).bind fun ae=>some (.inl ((aa.set U ad),(U+1))))else(some (.inr (aa)))
def zlu (U:xsj->xsk->Option Int) (p:xsj) (e:xsk):Option Int:=
 need (0<=(e.Args.length:Int)/\8*(e.Args.length:Int)<=140737488355328) ((loop (zdj U p e) ((List.replicate e.Args.length 0),0)).bind (fun I=>if e.Op=1 then(some e.Kind)else(if e.Op=2 then((zk2 p e.Name).bind fun aa=>if aa<0 then(some 0)else((idx p.Vars aa).bind fun ab=>if((decide (0<ab.Type_.Len))==(decide (e.Op=3)))=true then(if e.Op=3 then none else(some ab.Type_.Kind))else(some 0)))else(if e.Op=3 then((zk2 p e.Name).bind fun ad=>if ad<0 then(some 0)else((idx p.Vars ad).bind fun ae=>if 0<ae.Type_.Len then(if(I.length:Int)=1 then((I[0]?).bind fun aj=>if aj=2 then(some ae.Type_.Kind)else(some 0))else(some 0))else(some 0)))else(if e.Op=4 then((zk9 p e.Name).bind fun af=>if af<0 then(some 0)else((idx p.Blocks af).bind fun ak=>(zm6 ak.Kind).bind fun ai=>if 0<=e.N then(if e.N<(ai.length:Int)then((idx ai e.N).bind fun al=>some al)else(some 0))else(some 0)))else(if e.Op=21 then((zmq p e.Name).bind fun an=>if 0<=an then(if(I.length:Int)=1 then((I[0]?).bind fun ao=>some ao)else(some 0))else(some 0))else(if 0<(I.length:Int)then((zco I (zlv I)).bind fun aq=>if aq=true then(some 0)else((I[0]?).bind fun ar=>(zjp e.Op ar).bind fun au=>some au))else(some 0))))))))
def zlt:Nat->(xsj->xsk->Option Int)
 |0=>fun _ _=>none
 |n+1=>zlu (zlt n)
def z1f (n:Nat) (p:xsj) (e:xsk):Option Int:=(zlt n) p e
def zvu (p:xsj) (e:xsk):Option Int:=z1f 1000000 p e
def zkb (p:xsj) (e:xsk):Option (Int×Bool):=
 (zvu p e).bind fun I=>some (I,(!(decide (I=0))))
def zlq (op:Int) (kind:Int) (a:Int):Option Int:=
 (zjp op kind).bind fun U=>if U=0 then(some 0)else((za9 kind a).bind fun I=>if op=5 then((za9 kind (w64 (0-I))).bind fun aa=>some aa)else(if op=6 then(if kind=1 then(some (w64 (1-I)))else(some (xnot .i64 I)))else(some 0)))
def zng (op:Int) (a:Int) (b:Int):Option Int:=
 if op=12 then((zl8 (decide (a=b))).bind fun I=>some I)else(if op=13 then((zl8 (!(decide (a=b)))).bind fun U=>some U)else(if op=14 then((zl8 (decide (a<b))).bind fun aa=>some aa)else(if op=15 then((zl8 (decide (a<=b))).bind fun ab=>some ab)else(if op=16 then((zl8 (decide (b<a))).bind fun ad=>some ad)else((zl8 (decide (b<=a))).bind fun ae=>some ae)))))
def zmu (op:Int) (kind:Int) (a:Int) (b:Int):Option (Int×Int):=
 if op=5 then(some (0,0))else(if op=6 then(some (0,0))else((zjp op kind).bind fun aj=>if aj=0 then(some (0,0))else((za9 kind a).bind fun U=>(za9 kind b).bind fun I=>if op=7 then((za9 kind (w64 (U*I))).bind fun ak=>some (ak,0))else(if op=8 then(if I=0 then(some (0,1))else(need (¬I=0) (if op=9 then none else((za9 kind (w64 (U.tdiv I))).bind fun al=>some (al,0)))))else(if op=9 then(if I=0 then(some (0,1))else(need (¬I=0) (need (¬I=0) ((za9 kind (U.tmod I)).bind fun an=>some (an,0)))))else(if op=10 then((za9 kind (w64 (U+I))).bind fun aa=>some (aa,0))else(if op=11 then((za9 kind (w64 (U-I))).bind fun ab=>some (ab,0))else(if op=18 then((za9 kind (w64 (andI .i64 U I))).bind fun ad=>some (ad,0))else(if op=19 then((za9 kind (w64 (xorI .i64 U I))).bind fun ae=>some (ae,0))else(if op=20 then((za9 kind (w64 (orI .i64 U I))).bind fun af=>some (af,0))else((zng op U I).bind fun ai=>some (ai,0))))))))))))
end
theorem z0p {t:xsz} {cells:List Int} {i:Int} {r:Int×Bool} (h:zox t cells i=some r):
  Pu prog 92 [.agg (xs7 t),.one (.sl (cells.map eI)),.one (.int .i64 i)] (.tup [.one (.int .i64 r.1),.one (.bool r.2)]):=by
 have F:=trivial;have R:=trivial
 refine pA func92 ?_;simp only[f92];unfold zox at h;refine bi h fun aa h I=>?_;refine tr ?_;intros;refine cS (zvs I) ?_;refine fi h F ?_ ?_<;>intro h _ F;refine bi h fun ab h U=>?_;refine tr ?_;intros;refine cS (z2k U) ?_;refine fi h F ?_ ?_<;>intro h _ F;refine tt ?_;refine fi h F ?_ ?_<;>intro h _ F;cases h;exact fin;refine tr ?_;intros;refine fi h F ?_ ?_<;>intro h _ F;cases h;exact fin
 cases h;exact fin;cases h;exact fin;cases h;exact fin
theorem zyo {t:xsz} {cells:List Int} {i:Int} {r:Int×Int} (h:zq4 t cells i=some r):
  Pu prog 61 [.agg (xs7 t),.one (.sl (cells.map eI)),.one (.int .i64 i)] (.tup [.one (.int .i64 r.1),.one (.int .i64 r.2)]):=by
 have F:=trivial;have R:=trivial
 refine pA func61 ?_;simp only[f61];unfold zq4 at h;refine bi h fun aa h I=>?_;refine tr ?_;intros;refine cS (z0p I) ?_;refine tt ?_;refine fv h F ?_ ?_<;>intro h _ F;refine by_ h F fun ab h U F=>?_;cases h;exact fin;cases h;exact fin
theorem za7 {b:Bool} {r:Int} (h:zbq b=some r):
  Pu prog 96 [.one (.bool b)] (.one (.int .i64 r)):=by
 have F:=trivial;have R:=trivial
 refine pA func96 ?_;simp only[f96];unfold zbq at h;refine fv h F ?_ ?_<;>intro h _ F;cases h;exact fin;cases h;exact fin
theorem zcx {name:Str} {r:blocks_kind} (h:zc2 name=some r):
  Pu prog 95 [.one (.str name)] (.agg (zn6 r)):=by
 have F:=trivial;have R:=trivial
 refine pA func95 ?_;simp only[f95];unfold zc2 at h;refine tr ?_;intros;refine fi h F ?_ ?_<;>intro h _ F;refine tr ?_;intros;refine iS func129 ?_;simp only[f129];cases h;exact fin;refine fi h F ?_ ?_<;>intro h _ F;refine tr ?_;intros;refine iS func129 ?_;simp only[f129];cases h;exact fin;refine fi h F ?_ ?_<;>intro h _ F;refine tr ?_;intros;refine iS func129 ?_;simp only[f129];cases h;exact fin
 refine fi h F ?_ ?_<;>intro h _ F;refine tr ?_;intros;refine iS func129 ?_;simp only[f129];cases h;exact fin;refine tt ?_;refine fi h F ?_ ?_<;>intro h _ F;refine tr ?_;intros;refine iS func129 ?_;simp only[f129];cases h;exact fin;refine fi h F ?_ ?_<;>intro h _ F;cases h;exact fin;refine fi h F ?_ ?_<;>intro h _ F;refine tr ?_;intros;refine iS func129 ?_;simp only[f129];cases h;exact fin
 refine fi h F ?_ ?_<;>intro h _ F;refine tr ?_;intros;refine iS func129 ?_;simp only[f129];cases h;exact fin;refine tt ?_;refine fi h F ?_ ?_<;>intro h _ F;refine tr ?_;intros;refine iS func129 ?_;simp only[f129];cases h;exact fin;refine fi h F ?_ ?_<;>intro h _ F;refine tr ?_;intros;refine iS func129 ?_;simp only[f129];cases h;exact fin;cases h;exact fin
theorem zlb {b:Bool} {r:Int} (h:zl8 b=some r):
  Pu prog 141 [.one (.bool b)] (.one (.int .i64 r)):=by
 have F:=trivial;have R:=trivial
 refine pA func141 ?_;simp only[f141];unfold zl8 at h;refine fv h F ?_ ?_<;>intro h _ F;cases h;exact fin;cases h;exact fin
theorem zaz {kind:Int} {n:Int} {r:Int} (h:za9 kind n=some r):
  Pu prog 97 [.one (.int .i64 kind),.one (.int .i64 n)] (.one (.int .i64 r)):=by
 have F:=trivial;have R:=trivial
 cases h;refine pA func97 ?_;simp only[f97];refine tt ?_
 rcases kinds kind with rfl|rfl|rfl|rfl|⟨h1,h2,h3,h4⟩
 ·refine cS (ziz (show ze0 1=some 1 by simp[ze0])) ?_
  refine tt ?_;refine cS (zlb (show zl8 (!decide (n=0))=some (zp9 1 n) by by_cases hn:n=0<;>simp[zl8,zp9,hn])) ?_;exact fin
 ·refine cS (ziz (show ze0 2=some 16 by simp[ze0])) ?_
  refine tt ?_
  iterate 6
   refine z4n (by rfl) (by kernel_rfl) ?_;refine tt ?_
  rw[yeu];simp only[show∀n:Int,IntKind.i64.wrap n=_ from zqa];rw[WbZ _ (by decide)];simp only[V.one.injEq,C.int.injEq,true_and];omega
 ·refine cS (ziz (show ze0 3=some 32 by simp[ze0])) ?_
  refine tt ?_
  iterate 4
   refine z4n (by rfl) (by kernel_rfl) ?_;refine tt ?_
  rw[yet];simp only[show∀n:Int,IntKind.i64.wrap n=_ from zqa];rw[WbZ _ (by decide)];simp only[V.one.injEq,C.int.injEq,true_and];omega
 ·refine cS (ziz (show ze0 4=some 32 by simp[ze0])) ?_
  refine tt ?_
  iterate 4
   refine z4n (by rfl) (by kernel_rfl) ?_;refine tt ?_
  rw[yes];simp only[show∀n:Int,IntKind.i64.wrap n=_ from zqa];rw[WbZ _ (by decide)];simp only[V.one.injEq,C.int.injEq,true_and];omega
 ·refine cS (ziz (show ze0 kind=some 0 by simp[ze0,h1,h2,h3,h4])) ?_
  rw[yjt h1 h2 h3 h4]
  have F:=And.intro (eq_false h1) F
  exact fin
theorem z2l {name:Str} {s:A4 Int} {i:Int} {r:Int} (h:ziy name s i=some r):
  Pu prog 63 [.one (.str name),.agg ((eA4 eI) s),.one (.int .i64 i)] (.one (.int .i64 r)):=by
 have F:=trivial;have R:=trivial
 refine pA func63 ?_;simp only[f63];unfold ziy at h;refine tr ?_;intros;refine iS func95 ?_;simp only[f95];refine tr ?_;intros;refine fi h F ?_ ?_<;>intro h _ F;refine tr ?_;intros;refine iS func129 ?_;simp only[f129];refine tr ?_;intros;refine fi h F ?_ ?_<;>intro h _ F;cases h;exact fin;refine fi h F ?_ ?_<;>intro h _ F;cases h;exact fin;refine tt ?_;refine fi h F ?_ ?_<;>intro h _ F
 refine bi h fun cu h aX=>?_;refine tr ?_;intros;refine cD (za7 aX) ?_;refine bi h fun cv h aY=>?_;refine tr ?_;intros;refine cD (za7 aY) ?_;refine bi h fun cw h aZ=>?_;refine tr ?_;intros;refine cD (zcx aZ) ?_;refine bx h F fun cx h bp F=>?_;refine bi h fun cy h a4=>?_;refine tr ?_;intros;refine cD (zaz a4) ?_;refine tr ?_;intros;refine fe h F ?_ ?_<;>intro h _ F;cases h;exact fin;refine tr ?_
 intros;refine fe h F ?_ ?_<;>intro h _ F;cases h;exact fin;refine tr ?_;intros;refine fe h F ?_ ?_<;>intro h _ F;cases h;exact fin;cases h;refine fi h F ?_ ?_<;>intro h _ F;refine bi h fun cA h a5=>?_;refine tr ?_;intros;refine cS (za7 a5) ?_;cases h;exact fin;refine bi h fun cB h a6=>?_;refine tr ?_;intros;refine cD (zcx a6) ?_;refine by_ h F fun cC h bq F=>?_;refine bi h fun cE h a7=>?_
 refine tr ?_;intros;refine cD (zaz a7) ?_;cases h;exact fin;refine fi h F ?_ ?_<;>intro h _ F;refine tr ?_;intros;refine iS func129 ?_;simp only[f129];refine tr ?_;intros;refine fi h F ?_ ?_<;>intro h _ F;cases h;exact fin;refine fi h F ?_ ?_<;>intro h _ F;cases h;exact fin;refine tt ?_;refine fi h F ?_ ?_<;>intro h _ F;refine bi h fun br h I=>?_;refine tr ?_;intros;refine cD (za7 I) ?_
 refine bi h fun bs h U=>?_;refine tr ?_;intros;refine cD (za7 U) ?_;refine bi h fun bt h aa=>?_;refine tr ?_;intros;refine cD (zcx aa) ?_;refine bx h F fun bu h a8 F=>?_;refine bi h fun bw h ab=>?_;refine tr ?_;intros;refine cD (zaz ab) ?_;refine tr ?_;intros;refine fe h F ?_ ?_<;>intro h _ F;cases h;exact fin;refine tr ?_;intros;refine fe h F ?_ ?_<;>intro h _ F;cases h;exact fin;refine tr ?_
 intros;refine fe h F ?_ ?_<;>intro h _ F;cases h;exact fin;cases h;refine fi h F ?_ ?_<;>intro h _ F;refine bi h fun bz h ad=>?_;refine tr ?_;intros;refine cS (za7 ad) ?_;cases h;exact fin;refine bi h fun bA h ae=>?_;refine tr ?_;intros;refine cD (zcx ae) ?_;refine by_ h F fun bB h a9 F=>?_;refine bi h fun bC h af=>?_;refine tr ?_;intros;refine cD (zaz af) ?_;cases h;exact fin;refine fi h F ?_ ?_<;>intro h _ F
 refine tr ?_;intros;refine iS func129 ?_;simp only[f129];refine tr ?_;intros;refine fi h F ?_ ?_<;>intro h _ F;cases h;exact fin;refine fi h F ?_ ?_<;>intro h _ F;cases h;exact fin;refine tt ?_;refine fi h F ?_ ?_<;>intro h _ F;refine bi h fun bD h ai=>?_;refine tr ?_;intros;refine cD (za7 ai) ?_;refine bi h fun bE h aj=>?_;refine tr ?_;intros;refine cD (za7 aj) ?_;refine bi h fun bF h ak=>?_
 refine tr ?_;intros;refine cD (zcx ak) ?_;refine bx h F fun bG h ba F=>?_;refine bi h fun bH h al=>?_;refine tr ?_;intros;refine cD (zaz al) ?_;refine tr ?_;intros;refine fe h F ?_ ?_<;>intro h _ F;cases h;exact fin;refine tr ?_;intros;refine fe h F ?_ ?_<;>intro h _ F;cases h;exact fin;refine tr ?_;intros;refine fe h F ?_ ?_<;>intro h _ F;cases h;exact fin;cases h;refine fi h F ?_ ?_<;>intro h _ F
 refine bi h fun bI h an=>?_;refine tr ?_;intros;refine cS (za7 an) ?_;cases h;exact fin;refine bi h fun bJ h ao=>?_;refine tr ?_;intros;refine cD (zcx ao) ?_;refine by_ h F fun bK h bb F=>?_;refine bi h fun bL h aq=>?_;refine tr ?_;intros;refine cD (zaz aq) ?_;cases h;exact fin;refine fi h F ?_ ?_<;>intro h _ F;refine tr ?_;intros;refine iS func129 ?_;simp only[f129];refine tr ?_;intros
 refine fi h F ?_ ?_<;>intro h _ F;cases h;exact fin;refine fi h F ?_ ?_<;>intro h _ F;cases h;exact fin;refine tt ?_;refine fi h F ?_ ?_<;>intro h _ F;refine bi h fun bM h ar=>?_;refine tr ?_;intros;refine cD (za7 ar) ?_;refine bi h fun bN h au=>?_;refine tr ?_;intros;refine cD (za7 au) ?_;refine bi h fun bO h av=>?_;refine tr ?_;intros;refine cD (zcx av) ?_;refine bx h F fun bP h bc F=>?_
 refine bi h fun bQ h aw=>?_;refine tr ?_;intros;refine cD (zaz aw) ?_;refine tr ?_;intros;refine fe h F ?_ ?_<;>intro h _ F;cases h;exact fin;refine tr ?_;intros;refine fe h F ?_ ?_<;>intro h _ F;cases h;exact fin;refine tr ?_;intros;refine fe h F ?_ ?_<;>intro h _ F;cases h;exact fin;cases h;refine fi h F ?_ ?_<;>intro h _ F;refine bi h fun bR h ax=>?_;refine tr ?_;intros;refine cS (za7 ax) ?_
 cases h;exact fin;refine bi h fun bS h ay=>?_;refine tr ?_;intros;refine cD (zcx ay) ?_;refine by_ h F fun bT h bf F=>?_;refine bi h fun bU h az=>?_;refine tr ?_;intros;refine cD (zaz az) ?_;cases h;exact fin;refine tt ?_;refine fi h F ?_ ?_<;>intro h _ F;refine tr ?_;intros;refine iS func129 ?_;simp only[f129];refine tr ?_;intros;refine fi h F ?_ ?_<;>intro h _ F;cases h;exact fin
 refine fi h F ?_ ?_<;>intro h _ F;cases h;exact fin;refine tt ?_;refine fi h F ?_ ?_<;>intro h _ F;refine bi h fun bV h aA=>?_;refine tr ?_;intros;refine cD (za7 aA) ?_;refine bi h fun bW h aB=>?_;refine tr ?_;intros;refine cD (za7 aB) ?_;refine bi h fun bX h aC=>?_;refine tr ?_;intros;refine cD (zcx aC) ?_;refine bx h F fun bY h bg F=>?_;refine bi h fun bZ h aD=>?_;refine tr ?_;intros
 refine cD (zaz aD) ?_;refine tr ?_;intros;refine fe h F ?_ ?_<;>intro h _ F;cases h;exact fin;refine tr ?_;intros;refine fe h F ?_ ?_<;>intro h _ F;cases h;exact fin;refine tr ?_;intros;refine fe h F ?_ ?_<;>intro h _ F;cases h;exact fin;cases h;refine fi h F ?_ ?_<;>intro h _ F;refine bi h fun b0 h aE=>?_;refine tr ?_;intros;refine cS (za7 aE) ?_;cases h;exact fin;refine bi h fun b1 h aF=>?_
 refine tr ?_;intros;refine cD (zcx aF) ?_;refine by_ h F fun b2 h bh F=>?_;refine bi h fun b3 h aG=>?_;refine tr ?_;intros;refine cD (zaz aG) ?_;cases h;exact fin;refine fi h F ?_ ?_<;>intro h _ F;refine tr ?_;intros;refine fi h F ?_ ?_<;>intro h _ F;cases h;exact fin;refine fi h F ?_ ?_<;>intro h _ F;cases h;exact fin;refine bi h fun b4 h aH=>?_;refine tr ?_;intros;refine cD (za7 aH) ?_
 refine bi h fun b5 h aI=>?_;refine tr ?_;intros;refine cD (za7 aI) ?_;refine bi h fun b6 h aJ=>?_;refine tr ?_;intros;refine cD (zcx aJ) ?_;refine bx h F fun b7 h bj F=>?_;refine bi h fun b8 h aK=>?_;refine tr ?_;intros;refine cD (zaz aK) ?_;refine tr ?_;intros;refine fe h F ?_ ?_<;>intro h _ F;cases h;exact fin;refine tr ?_;intros;refine fe h F ?_ ?_<;>intro h _ F;cases h;exact fin
 refine tr ?_;intros;refine fe h F ?_ ?_<;>intro h _ F;cases h;exact fin;cases h;refine fi h F ?_ ?_<;>intro h _ F;refine tr ?_;intros;refine iS func129 ?_;simp only[f129];refine tr ?_;intros;refine fi h F ?_ ?_<;>intro h _ F;cases h;exact fin;refine fi h F ?_ ?_<;>intro h _ F;cases h;exact fin;refine tt ?_;refine fi h F ?_ ?_<;>intro h _ F;refine bi h fun b9 h aL=>?_;refine tr ?_
 intros;refine cS (za7 aL) ?_;cases h;exact fin;refine bi h fun ca h aM=>?_;refine tr ?_;intros;refine cD (zcx aM) ?_;refine by_ h F fun cb h bl F=>?_;refine bi h fun cc h aN=>?_;refine tr ?_;intros;refine cD (zaz aN) ?_;cases h;exact fin;refine fi h F ?_ ?_<;>intro h _ F;refine tr ?_;intros;refine iS func129 ?_;simp only[f129];refine tr ?_;intros;refine fi h F ?_ ?_<;>intro h _ F;cases h;exact fin
 refine fi h F ?_ ?_<;>intro h _ F;cases h;exact fin;refine tt ?_;refine fi h F ?_ ?_<;>intro h _ F;refine bi h fun cd h aO=>?_;refine tr ?_;intros;refine cS (za7 aO) ?_;cases h;exact fin;refine bi h fun cf h aP=>?_;refine tr ?_;intros;refine cD (zcx aP) ?_;refine by_ h F fun cg h bm F=>?_;refine bi h fun ch h aQ=>?_;refine tr ?_;intros;refine cD (zaz aQ) ?_;cases h;exact fin;refine tt ?_
 refine fi h F ?_ ?_<;>intro h _ F;refine tr ?_;intros;refine iS func129 ?_;simp only[f129];refine tr ?_;intros;refine fi h F ?_ ?_<;>intro h _ F;cases h;exact fin;refine fi h F ?_ ?_<;>intro h _ F;cases h;exact fin;refine tt ?_;refine fi h F ?_ ?_<;>intro h _ F;refine bi h fun cj h aR=>?_;refine tr ?_;intros;refine cS (za7 aR) ?_;cases h;exact fin;refine bi h fun ck h aS=>?_;refine tr ?_
 intros;refine cD (zcx aS) ?_;refine by_ h F fun cm h bn F=>?_;refine bi h fun cn h aT=>?_;refine tr ?_;intros;refine cD (zaz aT) ?_;cases h;exact fin;refine fi h F ?_ ?_<;>intro h _ F;refine tr ?_;intros;refine iS func129 ?_;simp only[f129];refine tr ?_;intros;refine fi h F ?_ ?_<;>intro h _ F;cases h;exact fin;refine fi h F ?_ ?_<;>intro h _ F;cases h;exact fin;refine tt ?_;refine fi h F ?_ ?_<;>intro h _ F
 refine bi h fun cp h aU=>?_;refine tr ?_;intros;refine cS (za7 aU) ?_;cases h;exact fin;refine bi h fun cq h aV=>?_;refine tr ?_;intros;refine cD (zcx aV) ?_;refine by_ h F fun cr h bo F=>?_;refine bi h fun ct h aW=>?_;refine tr ?_;intros;refine cD (zaz aW) ?_;cases h;exact fin;refine tr ?_;intros;refine fi h F ?_ ?_<;>intro h _ F;cases h;exact fin;refine fi h F ?_ ?_<;>intro h _ F
 cases h;exact fin;exact(by omega:False).elim
theorem zp0 {op:Int} {kind:Int} {r:Int} (h:zjp op kind=some r):
  Pu prog 101 [.one (.int .i64 op),.one (.int .i64 kind)] (.one (.int .i64 r)):=by
 have F:=trivial;have R:=trivial
 refine pA func101 ?_;simp only[f101];unfold zjp at h;refine bi h fun U h I=>?_;refine tr ?_;intros;refine cS (ziz I) ?_;refine fi h F ?_ ?_<;>intro h _ F;cases h;exact fin;refine tt ?_;refine fi h F ?_ ?_<;>intro h _ F;refine fi h F ?_ ?_<;>intro h _ F;cases h;exact fin;cases h;exact fin;refine fi h F ?_ ?_<;>intro h _ F;refine fi h F ?_ ?_<;>intro h _ F;cases h;exact fin;cases h;exact fin
 refine fi h F ?_ ?_<;>intro h _ F;refine fi h F ?_ ?_<;>intro h _ F;cases h;exact fin;cases h;exact fin;refine fi h F ?_ ?_<;>intro h _ F;refine tt ?_;refine fi h F ?_ ?_<;>intro h _ F;cases h;exact fin;cases h;exact fin;refine tt ?_;refine fi h F ?_ ?_<;>intro h _ F;refine fi h F ?_ ?_<;>intro h _ F;cases h;exact fin;cases h;exact fin;refine fi h F ?_ ?_<;>intro h _ F;refine fi h F ?_ ?_<;>intro h _ F
 cases h;exact fin;cases h;exact fin;refine fi h F ?_ ?_<;>intro h _ F;refine fi h F ?_ ?_<;>intro h _ F;cases h;exact fin;cases h;exact fin;refine fi h F ?_ ?_<;>intro h _ F;refine tt ?_;refine fi h F ?_ ?_<;>intro h _ F;cases h;exact fin;cases h;exact fin;refine tt ?_;refine fi h F ?_ ?_<;>intro h _ F;refine fi h F ?_ ?_<;>intro h _ F;cases h;exact fin;cases h;exact fin;refine fi h F ?_ ?_<;>intro h _ F
 refine fi h F ?_ ?_<;>intro h _ F;cases h;exact fin;cases h;exact fin;refine fi h F ?_ ?_<;>intro h _ F;cases h;exact fin;refine fi h F ?_ ?_<;>intro h _ F;cases h;exact fin;refine tt ?_;refine fi h F ?_ ?_<;>intro h _ F;refine fi h F ?_ ?_<;>intro h _ F;cases h;exact fin;cases h;exact fin;refine fi h F ?_ ?_<;>intro h _ F;refine fi h F ?_ ?_<;>intro h _ F;cases h;exact fin;cases h;exact fin
 refine fi h F ?_ ?_<;>intro h _ F;refine fi h F ?_ ?_<;>intro h _ F;cases h;exact fin;cases h;exact fin;refine fi h F ?_ ?_<;>intro h _ F;refine tt ?_;refine fi h F ?_ ?_<;>intro h _ F;cases h;exact fin;cases h;exact fin;cases h;exact fin
theorem zx0 {name:Str} {r:List Int} (h:zm6 name=some r):
  Pu prog 145 [.one (.str name)] (.one (.sl (r.map eI))):=by
 have F:=trivial;have R:=trivial
 refine pA func145 ?_;simp only[f145];unfold zm6 at h;refine tr ?_;intros;refine iS func95 ?_;simp only[f95];refine tr ?_;intros;refine fi h F ?_ ?_<;>intro h _ F;refine tr ?_;intros;refine iS func129 ?_;simp only[f129];cases h;exact fin;refine fi h F ?_ ?_<;>intro h _ F;refine tr ?_;intros;refine iS func129 ?_;simp only[f129];cases h;exact fin;refine fi h F ?_ ?_<;>intro h _ F;refine tr ?_
 intros;refine iS func129 ?_;simp only[f129];cases h;exact fin;refine fi h F ?_ ?_<;>intro h _ F;refine tr ?_;intros;refine iS func129 ?_;simp only[f129];cases h;exact fin;refine tt ?_;refine fi h F ?_ ?_<;>intro h _ F;refine tr ?_;intros;refine iS func129 ?_;simp only[f129];cases h;exact fin;refine fi h F ?_ ?_<;>intro h _ F;cases h;exact fin;refine fi h F ?_ ?_<;>intro h _ F;refine tr ?_
 intros;refine iS func129 ?_;simp only[f129];cases h;exact fin;refine fi h F ?_ ?_<;>intro h _ F;refine tr ?_;intros;refine iS func129 ?_;simp only[f129];cases h;exact fin;refine tt ?_;refine fi h F ?_ ?_<;>intro h _ F;refine tr ?_;intros;refine iS func129 ?_;simp only[f129];cases h;exact fin;refine fi h F ?_ ?_<;>intro h _ F;refine tr ?_;intros;refine iS func129 ?_;simp only[f129];cases h;exact fin
 cases h;exact fin
theorem zoc {s:List Int} {f:(Int->Option Bool)} {r:Int}
  {f_f:FuncId} {f_c:List C} (ab:Clo f_c) (ad:∀(x0:Int) (r:Bool),f x0=some r->Pu prog f_f ([.one (.int .i64 x0)]++f_c.map V.one) (.one (.bool r))) (h:zfn s f=some r):
  Pu prog 168 [.one (.sl (s.map eI)),.one (.fn f_f f_c)] (.one (.int .i64 r)):=by
 have F:=trivial;have R:=trivial
 refine pA func168 ?_;simp only[f168];unfold zfn at h
 have F:=And.intro ab.all F
 refine bi h fun ai h ae=>?_;refine tr ?_;intros
 refine lX ae (fun|U,_=>⟨[(0,.one (.sl (s.map eI))),(1,.one (.fn f_f f_c)),(7,.one (.int .i64 (s.length:Int))),(8,.one (.int .i64 (U:Int)))],[]⟩) (fun|(.inl al),_=>⟨[],[]⟩|(.inr ()),_=>⟨[],[]⟩) (fun|(.inl _)=>none|(.inr _)=>some 0) ?_ ?_
 intro i3 b3 aa
 rcases ai with aj|⟨⟩
 cases aa;obtain rfl:=Wab aa;obtain⟨⟩:=b3;dsimp only at h|-;cases h;exact fin;intro af3 m3 U a3 o3 I ho3 ih3;obtain⟨⟩:=a3;dsimp only[zd3]at I|-;refine fl I F ?_ ?_<;>intro I _ F;refine bx I F fun an I ak F=>?_;refine bi I fun ao I af=>?_;refine tr ?_;intros;refine cS (ad _ _ af) ?_;refine fv I F ?_ ?_<;>intro I _ F;cases I;obtain rfl:=sr ho3
 try dsimp only at h
 cases h;exact fin;cases I;refine tt ?_;refine wn U F fun F=>?_;exact bk ih3 ho3 ();cases I;refine tt ?_;exact xt ho3 af3 ()
theorem zm8 {s:List Int} {f:(Int->Option Bool)} {r:Bool}
  {f_f:FuncId} {f_c:List C} (I:Clo f_c) (U:∀(x0:Int) (r:Bool),f x0=some r->Pu prog f_f ([.one (.int .i64 x0)]++f_c.map V.one) (.one (.bool r))) (h:zco s f=some r):
  Pu prog 146 [.one (.sl (s.map eI)),.one (.fn f_f f_c)] (.one (.bool r)):=by
 have F:=trivial;have R:=trivial
 refine pA func146 ?_;simp only[f146];unfold zco at h
 have F:=And.intro I.all F
 refine bi h fun ab h aa=>?_;refine tr ?_;intros;refine cS (zoc (f_f:=f_f) (f_c:=f_c) I U aa) ?_;cases h;exact fin
theorem zyr {I:List Int} {k:Int} {r:Bool} (h:zlv I k=some r):
  Pu prog 147 [.one (.int .i64 k),.one (.iptr ((eL eI) I) 0)] (.one (.bool r)):=by
 have F:=trivial;have R:=trivial
 refine pA func147 ?_;simp only[f147];unfold zlv at h;refine bx h F fun aa h U F=>?_;cases h;exact fin
theorem zyq {I:xsj->xsk->Option Int} {p:xsj} {e:xsk} {r:Int}
  (aa:∀(x0:xsj) (x1:xsk) (r:Int),I x0 x1=some r->Pu prog 100 [.agg (xso x0),.agg (xsm x1)] (.one (.int .i64 r))) (h:zlu I p e=some r):
  Pu prog 100 [.agg (xso p),.agg (xsm e)] (.one (.int .i64 r)):=by
 have F:=trivial;have R:=trivial
 refine pA func100 ?_;simp only[f100];unfold zlu at h;refine nd h F fun h F=>?_
 have R:=And.intro (show List.replicate e.Args.length [.int .i64 0]=List.map eI (List.replicate e.Args.length 0) by simp[go_sem]) R
 refine bi h fun ae h au=>?_;refine tr ?_;intros
 refine lX au (fun|(ab,ad),_=>⟨[(2,.one (.ref 0 0 0 0)),(3,.one (.ref 1 0 0 0)),(5,.one (.ref 3 0 0 0)),(20,.one (.sl (e.Args.map xsm))),(21,.one (.int .i64 (e.Args.length:Int))),(22,.one (.int .i64 (ad:Int)))],[.cells 0 6 [(eP_ p)],.cells 0 5 [[.int .i64 e.Op,.int .i64 e.N,.int .i64 e.Kind,.str e.Name,.sl (e.Args.map xsm)]],.cells 0 1 (ab.map eI),.cells 0 1 [[.msl 2 0 0 ab.length]]]⟩) (fun|ae,_=>⟨[(2,.one (.ref 0 0 0 0)),(3,.one (.ref 1 0 0 0)),(5,.one (.ref 3 0 0 0))],[.cells 0 6 [(eP_ p)],.cells 0 5 [[.int .i64 e.Op,.int .i64 e.N,.int .i64 e.Kind,.str e.Name,.sl (e.Args.map xsm)]],.cells 0 1 (ae.map eI),.cells 0 1 [[.msl 2 0 0 ae.length]]]⟩) (fun _=>some 0) ?_ ?_
 intro i5 b5 aw;obtain rfl:=Wab aw;obtain⟨⟩:=b5;dsimp only at h|-;refine tr ?_;intros;refine iS func144 ?_;simp only[f144];refine tt ?_;refine fi h F ?_ ?_<;>intro h _ F;cases h;exact fin;refine fi h F ?_ ?_<;>intro h _ F;refine bi h fun aG h af=>?_;refine tr ?_;intros;refine cS (zli af) ?_;refine tr ?_;intros;refine fi h F ?_ ?_<;>intro h _ F;cases h;exact fin;refine by_ h F fun aH h az F=>?_
 refine tr ?_;intros;refine fv h F ?_ ?_<;>intro h _ F;refine tt ?_;refine fi h F ?_ ?_<;>intro h _ F;exact(by omega:False).elim;cases h;exact fin;cases h;exact fin;refine fi h F ?_ ?_<;>intro h _ F;refine bi h fun aI h ai=>?_;refine tr ?_;intros;refine cS (zli ai) ?_;refine tr ?_;intros;refine fi h F ?_ ?_<;>intro h _ F;cases h;exact fin;refine by_ h F fun aJ h aA F=>?_;refine tr ?_
 intros;refine fi h F ?_ ?_<;>intro h _ F;refine tr ?_;intros;refine fi h F ?_ ?_<;>intro h _ F;refine bx h F fun aK h aB F=>?_;refine tr ?_;intros;refine fi h F ?_ ?_<;>intro h _ F;cases h;exact fin;cases h;exact fin;cases h;exact fin;cases h;exact fin;refine fi h F ?_ ?_<;>intro h _ F;refine bi h fun aL h aj=>?_;refine tr ?_;intros;refine cS (zph aj) ?_;refine fi h F ?_ ?_<;>intro h _ F
 cases h;exact fin;refine by_ h F fun aM h aC F=>?_;refine bi h fun aN h ak=>?_;refine tr ?_;intros;refine cS (zx0 ak) ?_;refine fi h F ?_ ?_<;>intro h _ F;refine tr ?_;intros;refine fi h F ?_ ?_<;>intro h _ F;refine by_ h F fun aO h aD F=>?_;cases h;exact fin;cases h;exact fin;cases h;exact fin;refine tt ?_;refine fi h F ?_ ?_<;>intro h _ F;refine bi h fun aP h al=>?_;refine tr ?_
 intros;refine cS (zrd al) ?_;refine tr ?_;intros;refine fi h F ?_ ?_<;>intro h _ F;refine tr ?_;intros;refine fi h F ?_ ?_<;>intro h _ F;refine bx h F fun aQ h aE F=>?_;cases h;exact fin;cases h;exact fin;cases h;exact fin;refine tr ?_;intros;refine fi h F ?_ ?_<;>intro h _ F;refine bi h fun aR h an=>?_;refine tr ?_;intros;refine cS (zm8 (f_f:=147) (f_c:=[.iptr [.sl (ae.map eI)] 0]) clo (fun _ r h=>zyr h) an) ?_
 refine fv h F ?_ ?_<;>intro h _ F;cases h;exact fin;refine bx h F fun aS h aF F=>?_;refine bi h fun aT h ao=>?_;refine tr ?_;intros;refine cD (zp0 ao) ?_;cases h;exact fin;cases h;exact fin;intro ax m5 s5 a5 o5 U aq ay;obtain⟨ab,ad⟩:=s5;obtain⟨⟩:=a5;dsimp only[zdj]at U|-;refine fl U F ?_ ?_<;>intro U _ F;refine bx U F fun aW U aU F=>?_;refine bi U fun ar U av=>?_;refine tr ?_
 intros;refine cD (aa _ _ _ av) ?_;refine bx U F fun aX U aV F=>?_
 have R:=And.intro (show(List.map eI ab).set ad [.int .i64 ar]=List.map eI (ab.set ad ar) by simp[go_sem,WaL]) R
 cases U;refine tr ?_;intros;refine wn ad F fun F=>?_;exact bk ay aq ();cases U;refine tt ?_;exact xt aq ax ()
theorem zyp (n:Nat):(∀(I:xsj) (U:xsk) (r:Int),(zlt n) I U=some r->Pu prog 100 [.agg (xso I),.agg (xsm U)] (.one (.int .i64 r))):=by
 induction n with
 |zero=>exact fun _ _ r h=>(by cases h)
 |succ n ih=>
  have aa:=ih
  exact fun _ _ r h=>zyq aa h
theorem z0g {p:xsj} {e:xsk} {r:Int} (h:zvu p e=some r):Pu prog 100 [.agg (xso p),.agg (xsm e)] (.one (.int .i64 r)):=(zyp 1000000) _ _ _ h
theorem zpf {p:xsj} {e:xsk} {r:Int×Bool} (h:zkb p e=some r):
  Pu prog 65 [.agg (xso p),.agg (xsm e)] (.tup [.one (.int .i64 r.1),.one (.bool r.2)]):=by
 have F:=trivial;have R:=trivial
 refine pA func65 ?_;simp only[f65];unfold zkb at h;refine bi h fun U h I=>?_;refine tr ?_;intros;refine cS (z0g I) ?_;cases h;exact fin
theorem zwt {op:Int} {kind:Int} {a:Int} {r:Int} (h:zlq op kind a=some r):
  Pu prog 66 [.one (.int .i64 op),.one (.int .i64 kind),.one (.int .i64 a)] (.one (.int .i64 r)):=by
 have F:=trivial;have R:=trivial
 refine pA func66 ?_;simp only[f66];unfold zlq at h;refine bi h fun ab h I=>?_;refine tr ?_;intros;refine cS (zp0 I) ?_;refine fi h F ?_ ?_<;>intro h _ F;cases h;exact fin;refine bi h fun ad h U=>?_;refine tr ?_;intros;refine cS (zaz U) ?_;refine fi h F ?_ ?_<;>intro h _ F;refine bi h fun ae h aa=>?_;refine tr ?_;intros;refine cS (zaz aa) ?_;cases h;exact fin;refine tt ?_;refine fi h F ?_ ?_<;>intro h _ F
 refine fi h F ?_ ?_<;>intro h _ F;cases h;exact fin;cases h;exact fin;cases h;exact fin
theorem zz2 {op:Int} {a:Int} {b:Int} {r:Int} (h:zng op a b=some r):
  Pu prog 102 [.one (.int .i64 op),.one (.int .i64 a),.one (.int .i64 b)] (.one (.int .i64 r)):=by
 have F:=trivial;have R:=trivial
 refine pA func102 ?_;simp only[f102];unfold zng at h;refine fi h F ?_ ?_<;>intro h _ F;refine bi h fun af h I=>?_;refine tr ?_;intros;refine cS (zlb I) ?_;cases h;exact fin;refine fi h F ?_ ?_<;>intro h _ F;refine bi h fun ai h U=>?_;refine tr ?_;intros;refine cS (zlb U) ?_;cases h;exact fin;refine tt ?_;refine fi h F ?_ ?_<;>intro h _ F;refine bi h fun aj h aa=>?_;refine tr ?_;intros
 refine cS (zlb aa) ?_;cases h;exact fin;refine fi h F ?_ ?_<;>intro h _ F;refine bi h fun ak h ab=>?_;refine tr ?_;intros;refine cS (zlb ab) ?_;cases h;exact fin;refine fi h F ?_ ?_<;>intro h _ F;refine bi h fun al h ad=>?_;refine tr ?_;intros;refine cS (zlb ad) ?_;cases h;exact fin;refine bi h fun an h ae=>?_;refine tr ?_;intros;refine cS (zlb ae) ?_;cases h;exact fin
theorem z0n {op:Int} {kind:Int} {a:Int} {b:Int} {r:Int×Int} (h:zmu op kind a b=some r):
  Pu prog 67 [.one (.int .i64 op),.one (.int .i64 kind),.one (.int .i64 a),.one (.int .i64 b)] (.tup [.one (.int .i64 r.1),.one (.int .i64 r.2)]):=by
 have F:=trivial;have R:=trivial
 refine pA func67 ?_;simp only[f67];unfold zmu at h;refine fi h F ?_ ?_<;>intro h _ F;cases h;exact fin;refine tt ?_;refine fi h F ?_ ?_<;>intro h _ F;cases h;exact fin;refine bi h fun ax h af=>?_;refine tr ?_;intros;refine cS (zp0 af) ?_;refine fi h F ?_ ?_<;>intro h _ F;cases h;exact fin;refine bi h fun ay h ai=>?_;refine tr ?_;intros;refine cS (zaz ai) ?_;refine bi h fun az h aj=>?_
 refine tr ?_;intros;refine cS (zaz aj) ?_;refine fi h F ?_ ?_<;>intro h _ F;refine bi h fun aA h ak=>?_;refine tr ?_;intros;refine cS (zaz ak) ?_;cases h;exact fin;refine tt ?_;refine fi h F ?_ ?_<;>intro h _ F;refine fi h F ?_ ?_<;>intro h _ F;cases h;exact fin;refine nd h F fun h F=>?_;refine tr ?_;intros;refine fi h F ?_ ?_<;>intro h _ F;exact(by omega:False).elim;refine bi h fun aB h al=>?_
 refine tr ?_;intros;refine cS (zaz al) ?_;cases h;exact fin;refine fi h F ?_ ?_<;>intro h _ F;refine fi h F ?_ ?_<;>intro h _ F;cases h;exact fin;refine nd h F fun h F=>?_;refine nd h F fun h F=>?_;refine bi h fun aC h an=>?_;refine tr ?_;intros;refine cS (zaz an) ?_;cases h;exact fin;refine fi h F ?_ ?_<;>intro h _ F;refine bi h fun ao h I=>?_;refine tr ?_;intros;refine cS (zaz I) ?_
 cases h;exact fin;refine fi h F ?_ ?_<;>intro h _ F;refine bi h fun aq h U=>?_;refine tr ?_;intros;refine cS (zaz U) ?_;cases h;exact fin;refine tt ?_;refine fi h F ?_ ?_<;>intro h _ F;refine bi h fun ar h aa=>?_;refine tr ?_;intros;refine cS (zaz aa) ?_;cases h;exact fin;refine fi h F ?_ ?_<;>intro h _ F;refine bi h fun au h ab=>?_;refine tr ?_;intros;refine cS (zaz ab) ?_;cases h;exact fin
 refine fi h F ?_ ?_<;>intro h _ F;refine bi h fun av h ad=>?_;refine tr ?_;intros;refine cS (zaz ad) ?_;cases h;exact fin;refine bi h fun aw h ae=>?_;refine tr ?_;intros;refine cS (zz2 ae) ?_;cases h;exact fin
end Go.Lz

end
section
namespace Go.Lz
section
variable {σ ρ:Type} {f:σ->Option (σ⊕ρ)}
theorem z3j (S:Nat->σ) (n:Nat) (step:∀i,i<n->f (S i)=some (.inl (S (i+1)))):∀k,k<=n->loop f (S 0)=loop f (S k)
 |0,_=>rfl
 |k+1,h=>by rw[z3j S n step k (by omega),zid (step k (by omega))]
theorem zu4 (S:Nat->σ) (n:Nat) (r:ρ) (step:∀i,i<n->f (S i)=some (.inl (S (i+1)))) (last:f (S n)=some (.inr r)):loop f (S 0)=some r:=by
 rw[z3j S n step n (Wae n),zb8 last]
theorem zlz (I:σ->Prop) (R:ρ->Prop) (μ:σ->Nat) (step:∀s,I s->(∃s',f s=some (.inl s')/\I s'/\μ s'<μ s)\/(∃r,f s=some (.inr r)/\R r)) (s:σ) (h:I s):∃r,loop f s=some r/\R r:=by
 induction hm:μ s using Nat.strongRecOn generalizing s with
 |ind m U=>
  subst hm
  rcases step s h with⟨s',e,hi,hl⟩|⟨r,e,hr⟩
  ·obtain⟨r,e2,hr⟩:=U (μ s') hl s' hi rfl
   exact⟨r,by rw[zid e,e2],hr⟩
  ·exact⟨r,zb8 e,hr⟩
theorem yac {ρ:Type} {f:Nat->Option (Nat⊕ρ)} (n:Nat) (g:Nat->Option ρ) (d:ρ) (step:∀i,i<n->f i=some (match g i with|some r=>.inr r|none=>.inl (i+1))) (last:f n=some (.inr d)):
  loop f 0=some (((List.range n).findSome? g).getD d):=by
 have key:∀k,k<=n->loop f (n-k)=some ((((List.range n).drop (n-k)).findSome? g).getD d):=by
  intro k
  induction k with
  |zero=>
   intro _;rw[WaZ,zb8 last,Wbx (by simp)];rfl
  |succ k ih=>
   intro hk
   have hd:(List.range n).drop (n-(k+1))=(n-(k+1))::(List.range n).drop (n-k):=by
    rw[Wa3 (by simp;omega)]
    congr 1
    ·simp
    ·congr 1;omega
   rw[hd,Wca]
   have I:=step (n-(k+1)) (by omega)
   cases U:g (n-(k+1))with
   |some r=>rw[U]at I;rw[zb8 I];rfl
   |none=>
    rw[U]at I;rw[zid I,show n-(k+1)+1=n-k by omega,ih (by omega)]
 have:=key n (Wae n)
 simpa using this
end
theorem zkn {ρ:Type} {f:Nat->Option (Nat⊕ρ)} (n:Nat) (p:Nat->Bool) (v:Nat->ρ) (d:ρ) (step:∀i,i<n->f i=some (if p i then .inr (v i)else .inl (i+1))) (last:f n=some (.inr d)):
  loop f 0=some (((List.range n).find? p).elim d v):=by
 rw[yac n (fun i=>if p i then some (v i)else none) d (fun i hi=>by rw[step i hi];cases p i<;>rfl) last]
 congr 1
 induction List.range n with
 |nil=>rfl
 |cons x xs I=>
  rw[Wca,WbP]
  cases p x with
  |true=>rfl
  |false=>simpa using I
theorem yee {ρ:Type} {p q:Nat->Bool} {a b:ρ} (h:∀x,q x= !p x) (xs:List Nat):(xs.find? p).elim a (fun _=>b)=if xs.all q then a else b:=by
 induction xs with
 |nil=>rfl
 |cons x xs I=>
  rw[WbP,Wbz,h x]
  cases p x with
  |true=>rfl
  |false=>simpa using I
theorem zt1 {f:Bool×Nat->Option ((Bool×Nat)⊕Bool)} (n:Nat) (p:Nat->Bool) (h1:∀d,d<n->f (true,d)=some (.inl (p d,d+1))) (h2:∀d,d<n->f (false,d)=some (.inr false)) (h3:∀b,f (b,n)=some (.inr b)) (ok:Bool):
  loop f (ok,0)=some (ok&&(List.range n).all p):=by
 have key:∀k,k<=n->∀b,loop f (b,n-k)=some (b&&((List.range n).drop (n-k)).all p):=by
  intro k
  induction k with
  |zero=>intro _ b;rw[WaZ,zb8 (h3 b),Wbx (by simp)];simp
  |succ k I=>
   intro hk b
   have U:(List.range n).drop (n-(k+1))=(n-(k+1))::(List.range n).drop (n-k):=by
    rw[Wa3 (by simp;omega)]
    congr 1
    ·simp
    ·congr 1;omega
   cases b with
   |false=>rw[zb8 (h2 _ (by omega))];simp
   |true=>
    rw[zid (h1 _ (by omega)),show n-(k+1)+1=n-k by omega,I (by omega),U,Wbz];simp
 have:=key n (Wae n) ok
 simpa using this
theorem zw6:∀{xs:List Bool} {i:Nat},xs[i]? =some false->(xs.set i true).count false+1=xs.count false
 |[],i,h=>by simp at h
 |x::xs,0,h=>by simp at h;subst h;simp
 |x::xs,i+1,h=>by
  simp at h
  have:=zw6 (xs:=xs) (i:=i) (by simpa using h)
  simp only[List.set_cons_succ,List.count_cons];omega
end Go.Lz

end
section


end
section


end
section


end
section


end
section
namespace Go.Lz
theorem z38 {α:Type} {xs:List α} {i:Nat} (h:i<xs.length):xs.drop i=xs[i]::xs.drop (i+1):=Wa3 h
theorem yab {α ρ:Type} {xs:List α} {g:α->Option ρ} {d:ρ} {f:Nat->Option (Nat⊕ρ)} (step:∀i (h:i<xs.length),f i=some (match g xs[i]with|some r=>.inr r|none=>.inl (i+1))) (last:f xs.length=some (.inr d)):
  loop f 0=some ((xs.findSome? g).getD d):=by
 have key:∀k i,xs.length-i=k->i<=xs.length->loop f i=some (((xs.drop i).findSome? g).getD d):=by
  intro k
  induction k with
  |zero=>
   intro i hk hi
   have:i=xs.length:=by omega
   subst this;rw[zb8 last,List.drop_length];rfl
  |succ k ih=>
   intro i hk hi
   have U:i<xs.length:=by omega
   have I:=step i U
   rw[z38 U,Wca]
   cases hg:g xs[i]with
   |some r=>rw[hg]at I;rw[zb8 I];rfl
   |none=>rw[hg]at I;rw[zid I,ih (i+1) (by omega) (by omega)]
 exact key _ 0 rfl (Waf _)
theorem zu5 {α ρ:Type} {xs:List α} {p:α->Bool} {a b:ρ} {f:Nat->Option (Nat⊕ρ)} (step:∀i (h:i<xs.length),f i=some (if p xs[i]then .inl (i+1)else .inr a)) (last:f xs.length=some (.inr b)):
  loop f 0=some (if xs.all p then b else a):=by
 rw[yab (g:=fun x=>if p x then none else some a) (d:=b) (fun i h=>by rw[step i h];cases p xs[i]<;>rfl) last]
 congr 1
 clear step last
 induction xs with
 |nil=>rfl
 |cons x xs I=>
  rw[Wca,Wbz]
  cases p x with
  |true=>simpa using I
  |false=>rfl
end Go.Lz

end
section
namespace Go.Lz
def Tot {α:Type} (x:Option α) (Q:α->Prop):Prop:=∃r,x=some r/\Q r
section
variable {α β:Type} {x:Option α} {Q:α->Prop} {f:α->Option β} {R:β->Prop}
theorem Tot.bind (h:Tot x Q) (k:∀a,Q a->Tot (f a) R):Tot (x.bind f) R:=by
 obtain⟨a,rfl,hq⟩:=h;exact k a hq
theorem Tot.need {p:Prop} [Decidable p] (h:p) (k:Tot x Q):Tot (need p x) Q:=by rw[zc3 h];exact k
theorem Tot.ite {c:Prop} [Decidable c] {y:Option α} (a:c->Tot x Q) (b:¬c->Tot y Q):Tot (if c then x else y) Q:=by
 by_cases h:c
 ·rw[if_pos h];exact a h
 ·rw[if_neg h];exact b h
theorem Tot.mk {a:α} (h:Q a):Tot (some a) Q:=⟨a,rfl,h⟩
theorem Tot.imp {I:α->Prop} (h:Tot x Q) (k:∀a,Q a->I a):Tot x I:=by
 obtain⟨a,rfl,hq⟩:=h;exact⟨a,rfl,k a hq⟩
theorem Tot.get {xs:List α} {i:Nat} (h:i<xs.length):Tot xs[i]? (fun a=>a∈xs/\a=xs[i]):=⟨xs[i],Wac h,Wap h,rfl⟩
theorem Tot.idx {xs:List α} {i:Int} (h0:0<=i) (h:i<xs.length):Tot (idx xs i) (fun a=>a∈xs):=by
 have:i.toNat<xs.length:=by omega
 exact⟨xs[i.toNat],by unfold Lz.idx;rw[if_pos h0];exact Wac this,Wap this⟩
end
section
variable {σ ρ:Type} {f:σ->Option (σ⊕ρ)}
def Rd (I:σ->Prop) (R:ρ->Prop) (μ:σ->Nat) (m:Nat):σ⊕ρ->Prop
 |.inl s=>I s/\μ s<m
 |.inr r=>R r
theorem Tot.loop (I:σ->Prop) {R:ρ->Prop} (μ:σ->Nat) {s:σ} (h:I s) (step:∀s,I s->Tot (f s) (Rd I R μ (μ s))):Tot (loop f s) R:=by
 refine zlz I R μ (fun s hs=>?_) s h;obtain⟨o,U,hq⟩:=step s hs
 cases o with
 |inl s'=>exact .inl ⟨s',U,hq⟩
 |inr r=>exact .inr ⟨r,U,hq⟩
end
theorem zfr {n:Int} (h1:-9223372036854775808<=n) (h2:n<=9223372036854775807):w64 n=n:=by rw[zqa];omega
end Go.Lz

end
section
namespace Go.Lz
theorem z6u (c:Int):Tot (zdw c) fun _=>True:=by
 unfold zdw
 repeat' (first|exact Tot.mk trivial|refine Tot.ite (fun _=>?_) (fun _=>?_))
theorem yi3 (c:Int):Tot (zf4 c) fun _=>True:=by
 unfold zf4
 repeat' (first|exact Tot.mk trivial|refine Tot.ite (fun _=>?_) (fun _=>?_))
theorem ypl (s:Str):Tot (zil s) fun _=>True:=by
 unfold zil;refine Tot.ite (fun _=>Tot.mk trivial) fun U=>?_
 have hl:0<s.length:=by cases s with|nil=>exact(U rfl).elim|cons a b=>simp
 refine(Tot.get hl).bind fun c _=>(z6u _).bind fun b _=>Tot.ite (fun _=>?_) (fun _=>Tot.mk trivial);refine Tot.bind (Tot.loop (fun i=>i<=s.length) (R:=fun _=>True) (fun i=>s.length-i) (by omega) fun i hi=>?_) fun _ _=>Tot.mk trivial;unfold zkh;refine Tot.ite (fun h=>?_) fun _=>Tot.mk trivial
 have I:i<s.length:=by omega
 refine(Tot.get I).bind fun c _=>(z6u _).bind fun b _=>Tot.ite (fun _=>Tot.mk ⟨I,by simp only;omega⟩) fun _=>(yi3 _).bind fun b _=>Tot.ite (fun _=>Tot.mk ⟨I,by simp only;omega⟩) fun _=>Tot.mk trivial
theorem ycb (s names:Str) (hn:names.length<=1000000):Tot (zeh s names) fun b=>b=true->s.length<=names.length:=by
 unfold zeh
 refine Tot.bind (Tot.loop (fun x=>0<=x.1/\x.1<=(x.2:Int)/\x.2<=names.length+1) (R:=fun r=>match r with|.inl b=>b=true->s.length<=names.length|.inr ()=>True) (fun x=>names.length+1-x.2) ⟨by simp,by simp,by simp⟩ fun⟨k,i⟩ ⟨h0,h1,h2⟩=>?_) fun r hr=>by
  cases r with
  |inl r=>exact Tot.mk hr
  |inr r=>exact Tot.mk (by simp)
 simp only at h0 h1 h2;unfold zjm;refine Tot.ite (fun h=>?_) fun _=>Tot.mk trivial
 have e:w64 ((i:Int)+1)=(i:Int)+1:=zfr (by omega) (by omega)
 have go:Tot (some (Sum.inl (w64 ((i:Int)+1),i+1)):Option ((Int×Nat)⊕(Bool⊕Unit))) (Rd (fun x=>0<=x.1/\x.1<=(x.2:Int)/\x.2<=names.length+1) (fun r=>match r with|.inl b=>b=true->s.length<=names.length|.inr ()=>True) (fun x=>names.length+1-x.2) (names.length+1-i)):=
  Tot.mk ⟨⟨by rw[e];simp only;omega,by rw[e];simp only;omega,by simp only;omega⟩,by simp only;omega⟩
 have st:Tot (if k<(i:Int)then need (0<=k/\k<=(i:Int)/\(i:Int)<=names.length) (if((names.take i).drop k.toNat)=s then(some (Sum.inr (Sum.inl (true))))else(some (Sum.inl ((w64 ((i:Int)+1)),(i+1)))))else(some (Sum.inl ((w64 ((i:Int)+1)),(i+1)))):Option ((Int×Nat)⊕(Bool⊕Unit))) (Rd (fun x=>0<=x.1/\x.1<=(x.2:Int)/\x.2<=names.length+1) (fun r=>match r with|.inl b=>b=true->s.length<=names.length|.inr ()=>True) (fun x=>names.length+1-x.2) (names.length+1-i)):=
  Tot.ite (fun _=>Tot.need ⟨h0,h1,h⟩ (Tot.ite (fun I=>Tot.mk fun _=>by rw[<-I];simp only[WaO,Waw];omega) fun _=>go)) fun _=>go
 refine Tot.ite (fun _=>st) fun U=>?_;refine(Tot.get (by omega)).bind fun c _=>Tot.ite (fun _=>st) fun _=>Tot.mk ⟨⟨h0,by simp only;omega,by simp only;omega⟩,by simp only;omega⟩
set_option maxRecDepth 20000 in
theorem yjv (s:Str):Tot (zhg s) fun _=>True:=by
 unfold zhg;exact(ycb s _ (Nat.le_of_ble_eq_true rfl)).bind fun _ _=>Tot.mk trivial
theorem ygc (s:Str):Tot (zf3 s) fun _=>True:=by
 unfold zf3;refine Tot.bind (Tot.loop (fun x=>x.2<=x.1.length) (R:=fun _=>True) (fun x=>x.1.length-x.2) (Waf _) fun⟨b,i⟩ h=>?_) fun _ _=>Tot.mk trivial;simp only at h;unfold zjl;refine Tot.ite (fun U=>?_) fun _=>Tot.mk trivial
 have I:i<b.length:=by omega
 exact(Tot.get I).bind fun x _=>Tot.ite (fun _=>Tot.ite (fun _=>Tot.mk ⟨by simp only[Wa8];omega,by simp only[Wa8];omega⟩) fun _=>Tot.mk ⟨I,by simp only;omega⟩) fun _=>Tot.mk ⟨I,by simp only;omega⟩
theorem zty (s:Str):Tot (zav s) fun b=>b=true->s.length<=32/\s≠[]:=by
 unfold zav
 refine Tot.ite (fun _=>Tot.mk fun h=>by cases h) fun h1=>Tot.ite (fun h2=>?_) fun _=>Tot.mk fun h=>by cases h
 exact(ypl s).bind fun _ _=>Tot.ite (fun _=>(ygc s).bind fun _ _=>(yjv _).bind fun _ _=>Tot.mk fun _=>⟨by omega,h1⟩) fun _=>Tot.mk fun h=>by cases h
theorem zn7 (n:Int) (h0:0<=n) (h1:n<10000000000):Tot (zaw n) fun r=>r.length<=11:=by
 unfold zaw
 have one:∀(m:Nat),m<10->((([48,49,50,51,52,53,54,55,56,57]:Str).take (m+1)).drop m).length=1:=by decide
 refine Tot.bind (Tot.loop (fun x=>0<=x.1/\x.1.toNat*10^x.2.length<10000000000/\x.2.length<=10) (R:=fun x=>0<=x.1/\x.1<10/\x.2.length<=10) (fun x=>x.1.toNat) ⟨h0,by simp;omega,by simp⟩ fun⟨n,s⟩ ⟨a0,a1,a2⟩=>?_) fun⟨n,s⟩ ⟨a0,a1,a2⟩=>?_
 ·simp only at a0 a1 a2
  unfold ziu;refine Tot.ite (fun h=>?_) fun h=>Tot.mk ?_
  ·obtain⟨m,rfl⟩:∃m:Nat,n=m:=⟨n.toNat,by omega⟩
   have hs:s.length<10:=by
    have:10*10^s.length<=m*10^s.length:=WaJ _ (by omega)
    have:10^s.length<10^10:=by simp only[Int.toNat_natCast]at a1;omega
    exact(Nat.pow_lt_pow_iff_right (by decide)).1 this
   have hm:m<10000000000:=by
    have:1<=10^s.length:=Nat.one_le_pow _ _ (by decide)
    have:m*1<=m*10^s.length:=Nat.mul_le_mul_left _ this
    simp only[Int.toNat_natCast]at a1;omega
   have U:(m:Int).tmod 10=((m%10:Nat):Int):=by rw[Int.tmod_eq_emod_of_nonneg (by omega)];omega
   have ed:(m:Int).tdiv 10=((m/10:Nat):Int):=by rw[Int.tdiv_eq_ediv_of_nonneg (by omega)];omega
   have I:w64 (((m%10:Nat):Int)+1)=((m%10+1:Nat):Int):=by rw[zfr (by omega) (by omega)];omega
   have e2:w64 ((m/10:Nat):Int)=((m/10:Nat):Int):=zfr (by omega) (by omega)
   rw[U,ed,I,e2];refine Tot.need ⟨by omega,by omega,by omega⟩ (Tot.need ?_ (Tot.mk ⟨⟨?_,?_,?_⟩,?_⟩))
   ·rw[Int.toNat_natCast,Int.toNat_natCast,one _ (by omega)];omega
   ·simp only;omega
   ·simp only[Int.toNat_natCast,Wai]
    rw[one _ (by omega),WbM 1,Nat.pow_succ];simp only[Int.toNat_natCast]at a1
    have:m/10*(10^s.length*10)<=m*10^s.length:=by
     rw[WbB (10^s.length) 10,<-Nat.mul_assoc];exact WaJ _ (Nat.div_mul_le_self m 10)
    omega
   ·simp only[Int.toNat_natCast,Wai]
    rw[one _ (by omega)];omega
   ·simp only[Int.toNat_natCast];omega
  ·exact⟨a0,by simp only;omega,a2⟩
 ·simp only at a0 a1 a2|-
  obtain⟨m,rfl⟩:∃m:Nat,n=m:=⟨n.toNat,by omega⟩
  have I:w64 ((m:Int)+1)=((m+1:Nat):Int):=by rw[zfr (by omega) (by omega)];omega
  rw[I];refine Tot.need ⟨by omega,by omega,by omega⟩ (Tot.need ?_ (Tot.mk ?_))
  ·rw[Int.toNat_natCast,Int.toNat_natCast,one _ (by omega)];omega
  ·rw[Wai,Int.toNat_natCast,Int.toNat_natCast,one _ (by omega)];omega
end Go.Lz

end
section
namespace Go.Lz
mutual
def depE:xsk->Nat
 |⟨_,_,_,_,args⟩=>znt args+1
def znt:List xsk->Nat
 |[]=>0
 |e::es=>max (depE e) (znt es)
end
mutual
def depS:xsl->Nat
 |⟨_,_,target,value,args,body,I⟩=>max (max (depE target) (depE value)) (max (znt args) (max (zgb body) (zgb I)))+1
def zgb:List xsl->Nat
 |[]=>0
 |e::es=>max (depS e) (zgb es)
end
theorem zdn (e:xsk):depE e=znt e.Args+1:=by cases e;rw[depE]
theorem zup (s:xsl):depS s=max (max (depE s.Target) (depE s.Value)) (max (znt s.Args) (max (zgb s.Body) (zgb s.Else)))+1:=by cases s;rw[depS]
theorem z4a:∀{l m:List xsk},znt (l++m)=max (znt l) (znt m)
 |[],m=>by simp[znt]
 |e::es,m=>by rw[Wbk,znt,znt,z4a (l:=es)];omega
theorem zfm:∀{l:List xsk} {x:xsk},x∈l->depE x<=znt l
 |e::es,x,I=>by
  rw[znt]
  rcases Wax.1 I with rfl|I
  ·omega
  ·have:=zfm I;omega
theorem znk:∀{l:List xsl} {x:xsl},x∈l->depS x<=zgb l
 |e::es,x,I=>by
  rw[zgb]
  rcases Wax.1 I with rfl|I
  ·omega
  ·have:=znk I;omega
mutual
def szE:xsk->Nat
 |⟨_,_,_,_,args⟩=>szEs args+1
def szEs:List xsk->Nat
 |[]=>0
 |e::es=>szE e+szEs es
end
theorem ztq (e:xsk):szE e=szEs e.Args+1:=by cases e;rw[szE]
theorem z59:∀{l m:List xsk},szEs (l++m)=szEs l+szEs m
 |[],m=>by simp[szEs]
 |e::es,m=>by rw[Wbk,szEs,szEs,z59 (l:=es)];omega
theorem zo7:∀{l:List xsk} {x:xsk},x∈l->szE x<=szEs l
 |e::es,x,I=>by
  rw[szEs]
  rcases Wax.1 I with rfl|I
  ·omega
  ·have:=zo7 I;omega
end Go.Lz

end
section
namespace Go.Lz
mutual
def fmE:xsk->Prop
 |⟨op,N,K,name,args⟩=>zct ⟨op,N,K,name,args⟩=some true/\fmEs args
def fmEs:List xsk->Prop
 |[]=>True
 |e::es=>fmE e/\fmEs es
end
theorem zyj (e:xsk):fmE e=(zct e=some true/\fmEs e.Args):=by cases e;rw[fmE]
theorem z65:∀{l m:List xsk},fmEs (l++m)↔fmEs l/\fmEs m
 |[],m=>by simp[fmEs]
 |e::es,m=>by rw[Wbk,fmEs,fmEs,z65 (l:=es),and_assoc]
theorem zk6:∀{l:List xsk},fmEs l->∀x∈l,fmE x
 |[],_,x,I=>by cases I
 |e::es,h,x,I=>by
  rw[fmEs]at h
  rcases Wax.1 I with rfl|I
  ·exact h.1
  ·exact zk6 h.2 x I
structure yjq (e:xsk):Prop where
 name:e.Name.length<=32
 n0:0<=e.N
 n1:e.N<=2147483647
 ops:(e.Op=1/\e.Args.length=0/\(e.Kind=1\/e.Kind=2\/e.Kind=3\/e.Kind=4))\/(e.Op=2/\e.Args.length=0)\/(e.Op=4/\e.Args.length=0)\/(e.Op=3/\e.Args.length=1)\/(e.Op=21/\e.Args.length=1)\/(e.Op=5/\e.Args.length=1)\/(e.Op=6/\e.Args.length=1)\/(7<=e.Op/\e.Op<=20/\e.Args.length=2)
theorem yff (e:xsk):Tot (zct e) fun b=>b=true->yjq e:=by
 have no:∀{Q:Prop},Tot (some false) fun b=>b=true->Q:=Tot.mk fun h=>by cases h
 have I:e.Name=[]->e.Name.length<=32:=fun h=>by rw[h];exact Waf _
 unfold zct;refine Tot.ite (fun o1=>?_) fun o1=>?_
 ·refine Tot.ite (fun n0=>?_) fun _=>no
  have fin:∀{m:Int},m<=2147483647->(e.Kind=1\/e.Kind=2\/e.Kind=3\/e.Kind=4)->Tot (if e.N<=m then(if(e.Args.length:Int)=0 then(some (decide (e.Name=[])))else(some false))else(some false)) fun b=>b=true->yjq e:=fun hm hk=>
   Tot.ite (fun n1=>Tot.ite (fun a0=>Tot.mk fun h=>⟨I (of_decide_eq_true h),n0,by omega,.inl ⟨o1,by omega,hk⟩⟩) fun _=>no) fun _=>no
  refine Tot.ite (fun k=>Tot.ite (fun n1=>Tot.ite (fun a0=>Tot.mk fun h=>⟨I (of_decide_eq_true h),n0,by omega,.inl ⟨o1,by omega,.inl k⟩⟩) fun _=>no) fun _=>Tot.ite (fun U=>by omega) fun _=>Tot.ite (fun U=>by omega) fun _=>Tot.ite (fun U=>by omega) fun _=>no) fun k1=>?_;refine Tot.ite (fun k=>Tot.ite (fun n1=>Tot.ite (fun a0=>Tot.mk fun h=>⟨I (of_decide_eq_true h),n0,by omega,.inl ⟨o1,by omega,.inr (.inl k)⟩⟩) fun _=>no) fun _=>Tot.ite (fun U=>by omega) fun _=>Tot.ite (fun U=>by omega) fun _=>no) fun U=>?_
  exact Tot.ite (fun k=>fin (by decide) (.inr (.inr (.inl k)))) fun k3=>Tot.ite (fun k=>fin (by decide) (.inr (.inr (.inr k)))) fun _=>no
 ·refine Tot.ite (fun k0=>?_) fun _=>no
  refine Tot.ite (fun o=>Tot.ite (fun a=>Tot.ite (fun n=>(zty _).bind fun b hb=>Tot.mk fun h=>⟨(hb h).1,by omega,by omega,.inr (.inl ⟨o,by omega⟩)⟩) fun _=>no) fun _=>no) fun o2=>?_;refine Tot.ite (fun o=>Tot.ite (fun a=>Tot.ite (fun n=>Tot.ite (fun n'=>(zty _).bind fun b hb=>Tot.mk fun h=>⟨(hb h).1,by omega,by omega,.inr (.inr (.inl ⟨o,by omega⟩))⟩) fun _=>no) fun _=>no) fun _=>no) fun o4=>?_
  refine Tot.ite (fun o=>Tot.ite (fun a=>Tot.ite (fun n=>(zty _).bind fun b hb=>Tot.mk fun h=>⟨(hb h).1,by omega,by omega,.inr (.inr (.inr (.inl ⟨o,by omega⟩)))⟩) fun _=>no) fun _=>no) fun o3=>?_;refine Tot.ite (fun o=>Tot.ite (fun a=>Tot.ite (fun n=>(zty _).bind fun b hb=>Tot.mk fun h=>⟨(hb h).1,by omega,by omega,.inr (.inr (.inr (.inr (.inl ⟨o,by omega⟩))))⟩) fun _=>no) fun _=>no) fun aa=>?_
  refine Tot.ite (fun o=>Tot.ite (fun a=>Tot.ite (fun n=>Tot.mk fun h=>⟨I (of_decide_eq_true h),by omega,by omega,.inr (.inr (.inr (.inr (.inr (.inl ⟨o,by omega⟩)))))⟩) fun _=>no) fun _=>no) fun o5=>?_;refine Tot.ite (fun o=>Tot.ite (fun a=>Tot.ite (fun n=>Tot.mk fun h=>⟨I (of_decide_eq_true h),by omega,by omega,.inr (.inr (.inr (.inr (.inr (.inr (.inl ⟨o,by omega⟩))))))⟩) fun _=>no) fun _=>no) fun o6=>?_
  exact Tot.ite (fun o=>Tot.ite (fun o'=>Tot.ite (fun a=>Tot.ite (fun n=>Tot.mk fun h=>⟨I (of_decide_eq_true h),by omega,by omega,.inr (.inr (.inr (.inr (.inr (.inr (.inr ⟨o,o',by omega⟩))))))⟩) fun _=>no) fun _=>no) fun _=>no) fun _=>no
theorem zww {e:xsk} (h:fmE e):yjq e:=by
 rw[zyj]at h;obtain⟨b,hb,hq⟩:=yff e;rw[h.1]at hb;cases hb;exact hq rfl
theorem zk4 {α:Type} {l:List α} {i:Nat} (h:i<l.length):l.take (i+1)=l.take i++[l[i]]:=by rw[List.take_add_one];simp[h]
theorem yb0:∀(d fuel:Nat),d<fuel->d<=1000->∀(e:xsk) (left:Int),left<=1000000->Tot (zde fuel e (d:Int) left) fun r=>r<=left/\-1<=r/\(0<=r->fmE e/\depE e<=d/\(szE e:Int)+r<=left)\/left<0/\r=-1
 |d,0,h,_,_,_,_=>by omega
 |0,fuel+1,_,_,e,left,_=>by
  unfold zde zeu
  exact Tot.ite (fun _=>Tot.mk (by omega)) fun h=>by omega
 |d+1,fuel+1,h,hd,e,left,hl=>by
  have e1:w64 (((d+1:Nat):Int)-1)=(d:Int):=by rw[zfr (by omega) (by omega)];omega
  unfold zde zeu;refine Tot.ite (fun h=>by omega) fun _=>Tot.ite (fun h=>Tot.mk (.inr ⟨h,rfl⟩)) fun ad=>?_;obtain⟨b,hb,_⟩:=yff e;rw[hb,Waa];refine Tot.ite (fun ab=>?_) fun _=>Tot.mk (.inl ⟨by omega,by omega,by omega⟩);subst ab;rw[zfr (n:=left-1) (by omega) (by omega)]
  refine Tot.bind (Tot.loop (fun x=>x.2<=e.Args.length/\x.1<=left-1/\-1<=x.1/\(0<=x.1->fmEs (e.Args.take x.2)/\znt (e.Args.take x.2)<=d/\(szEs (e.Args.take x.2):Int)+x.1<=left-1))
   (R:=fun r=>r<=left/\-1<=r/\(0<=r->fmE e/\depE e<=d+1/\(szE e:Int)+r<=left)) (fun x=>e.Args.length-x.2) ⟨by simp,by simp,by simp only;omega,fun _=>by simp[fmEs,znt,szEs]⟩ fun⟨l,i⟩ ⟨a0,a1,a2,a3⟩=>?_) fun r hr=>Tot.mk (.inl hr)
  simp only at a0 a1 a2 a3;unfold zjk;refine Tot.ite (fun hi=>?_) fun hi=>Tot.mk ⟨by omega,a2,fun h0=>?_⟩
  ·refine Tot.ite (fun h0=>?_) fun h0=>Tot.mk ⟨by omega,a2,by omega⟩
   have I:i<e.Args.length:=by omega
   refine(Tot.get I).bind fun x hx=>?_;rw[e1,hx.2];refine(yb0 d fuel (by omega) (by omega) _ l (by omega)).bind fun r hr=>Tot.mk ⟨⟨I,?_,?_,fun aa=>?_⟩,by simp only;omega⟩
   ·simp only;omega
   ·simp only;omega
   ·simp only at aa|-
    obtain⟨U,b1,b2⟩:=a3 h0
    rcases hr with⟨_,_,hr⟩|⟨hr,_⟩
    ·obtain⟨c0,c1,c2⟩:=hr aa
     rw[zk4 I,z65,z4a,z59];simp only[fmEs,znt,szEs];exact⟨⟨U,c0,trivial⟩,by omega,by omega⟩
    ·omega
  ·have:i=e.Args.length:=by omega
   subst this;obtain⟨U,b1,b2⟩:=a3 h0;rw[Wbs]at U b1 b2;rw[zyj,zdn,ztq];exact⟨⟨hb,U⟩,by omega,by omega⟩
theorem yep (e:xsk):Tot (zkz e 24 16384) fun r=>0<=r->fmE e/\depE e<=24/\szE e<=16384:=
 (yb0 24 1000000 (by omega) (by omega) e 16384 (by omega)).imp fun r hr h0=>by
   rcases hr with⟨_,_,h⟩|⟨h,_⟩
   ·obtain⟨a,b,c⟩:=h h0;exact⟨a,b,by omega⟩
   ·omega
theorem z47 (op:Int):Tot (zc6 op) fun _=>True:=by
 unfold zc6
 repeat' (first|exact Tot.mk trivial|refine Tot.ite (fun _=>?_) (fun _=>?_))
theorem ygo (l:Int):Tot (zf2 l) fun r=>r.1.length<=14:=by
 unfold zf2
 repeat' (first|exact Tot.mk (by decide)|refine Tot.ite (fun _=>?_) (fun _=>?_))
theorem ykk (op:Int):Tot (zhf op) fun r=>r.length<=14:=by
 unfold zhf;refine(z47 op).bind fun l _=>(ygo l).bind fun x U=>?_
 obtain⟨names,first⟩:=x
 simp only at U
 refine Tot.bind (Tot.loop (fun x=>0<=x.2.1/\x.2.1<=(x.2.2:Int)/\x.2.2<=names.length+1) (R:=fun r=>match r with|.inl r=>r.length<=14|.inr ()=>True) (fun x=>names.length+1-x.2.2) ⟨by simp,by simp,by simp⟩ fun⟨k,fr,i⟩ ⟨h0,h1,h2⟩=>?_) fun r hr=>by
  cases r with
  |inl r=>exact Tot.mk hr
  |inr r=>exact Tot.mk (by simp)
 simp only at h0 h1 h2;unfold zj6;refine Tot.ite (fun h=>?_) fun _=>Tot.mk trivial;simp only at h
 have e:w64 ((i:Int)+1)=(i:Int)+1:=zfr (by omega) (by omega)
 have dl:((names.take i).drop fr.toNat).length<=14:=by simp only[WaO,Waw];omega
 refine Tot.ite (fun _=>Tot.ite (fun _=>Tot.need ⟨h0,h1,h⟩ (Tot.mk dl)) fun _=>Tot.mk ⟨⟨by rw[e];simp only;omega,by rw[e];simp only;omega,by simp only;omega⟩,by simp only;omega⟩) fun I=>?_;simp only at I;exact(Tot.get (by simp only;omega)).bind fun c _=>Tot.ite (fun _=>Tot.ite (fun _=>Tot.need ⟨h0,h1,h⟩ (Tot.mk dl)) fun _=>Tot.mk ⟨⟨by rw[e];simp only;omega,by rw[e];simp only;omega,by simp only;omega⟩,by simp only;omega⟩) fun _=>Tot.mk ⟨⟨h0,by simp only;omega,by simp only;omega⟩,by simp only;omega⟩
theorem zy7 {l:List xsk} {i:Nat} (h:i<l.length):Tot l[i]? fun x=>x∈l/\depE x<=znt l/\szE x<=szEs l:=
 (Tot.get h).imp fun x I=>⟨I.1,zfm I.1,zo7 I.1⟩
theorem z1g {l:List xsk} (h:l.length=2):∃a b,l=[a,b]:=by
 match l,h with
 |[a,b],_=>exact⟨a,b,rfl⟩
theorem yex:∀(n:Nat),(∀e,fmE e->2*depE e<=n->szE e<=1000000->Tot ((zay n).1 e) fun r=>r.length<=64*szE e)/\(∀e least,fmE e->2*depE e+1<=n->szE e<=1000000->Tot ((zay n).2 e least) fun r=>r.length<=64*szE e+2)
 |0=>⟨fun e _ h _=>by rw[zdn]at h;omega,fun e _ _ h _=>by omega⟩
 |n+1=>by
  obtain⟨ih1,ih2⟩:=yex n;constructor
  ·intro e ok hd I
   have F:=zww ok
   rw[zyj]at ok;rw[zdn]at hd;rw[ztq]at I|-
   have hn:=F.name
   have aa:=F.n0
   have af:=F.n1
   show Tot (zfi (zay n).1 (zay n).2 e) _
   unfold zfi;refine Tot.ite (fun o1=>?_) fun o1=>?_
   ·refine Tot.ite (fun _=>Tot.ite (fun _=>Tot.mk (by simp only[Waj,Wam];omega)) fun _=>Tot.mk (by simp only[Waj,Wam];omega)) fun _=>?_
    refine Tot.ite (fun _=>(zn7 _ aa (by omega)).bind fun r hr=>Tot.need (by omega) (Tot.need (by omega) (Tot.mk (by simp only[Wai,Waj,Wam];omega)))) fun _=>?_;refine Tot.ite (fun _=>(zn7 _ aa (by omega)).bind fun r hr=>Tot.need (by omega) (Tot.need (by omega) (Tot.mk (by simp only[Wai,Waj,Wam];omega)))) fun _=>?_;exact(zn7 _ aa (by omega)).bind fun r hr=>Tot.mk (by omega)
   refine Tot.ite (fun _=>Tot.mk (by omega)) fun o2=>?_;refine Tot.ite (fun _=>Tot.need (by omega) ((zn7 _ aa (by omega)).bind fun r hr=>Tot.need (by omega) (Tot.mk (by simp only[Wai,Waj,Wam];omega)))) fun o4=>?_;refine Tot.ite (fun o=>?_) fun o3=>?_
   ·have hl:0<e.Args.length:=by have:=F.ops;omega
    refine Tot.need (by omega) ((zy7 hl).bind fun x U=>(ih1 x (zk6 ok.2 x U.1) (by omega) (by omega)).bind fun r hr=>Tot.need (by omega) (Tot.need (by omega) (Tot.mk (by simp only[Wai,Waj,Wam];omega))))
   refine Tot.ite (fun o=>?_) fun ai=>?_
   ·have hl:0<e.Args.length:=by have:=F.ops;omega
    refine Tot.need (by omega) (Tot.need (by omega) ((zy7 hl).bind fun x U=>(ih1 x (zk6 ok.2 x U.1) (by omega) (by omega)).bind fun r hr=>Tot.need (by omega) (Tot.need (by omega) (Tot.mk (by simp only[Wai,Waj,Wam];omega)))))
   refine Tot.ite (fun o=>?_) fun o5=>?_
   ·have hl:0<e.Args.length:=by have:=F.ops;omega
    exact(zy7 hl).bind fun x U=>(ih2 x 7 (zk6 ok.2 x U.1) (by omega) (by omega)).bind fun r hr=>Tot.need (by omega) (Tot.mk (by simp only[Wai,Waj,Wam];omega))
   refine Tot.ite (fun o=>?_) fun o6=>?_
   ·have hl:0<e.Args.length:=by have:=F.ops;omega
    exact(zy7 hl).bind fun x U=>(ih2 x 7 (zk6 ok.2 x U.1) (by omega) (by omega)).bind fun r hr=>Tot.need (by omega) (Tot.mk (by simp only[Wai,Waj,Wam];omega))
   have hl:e.Args.length=2:=by have:=F.ops;omega
   obtain⟨a,b,ab⟩:=z1g hl;rw[ab]at ok hd I|-;simp only[fmEs,znt,szEs]at ok hd I;obtain⟨_,ad,ae,_⟩:=ok;simp only[Wau,WaN,Waa,szEs];exact(z47 _).bind fun k _=>(ih2 a k ad (by omega) (by omega)).bind fun r hr=>Tot.need (by omega) ((ykk _).bind fun s I=>Tot.need (by omega) (Tot.need (by omega) ((ih2 b _ ae (by omega) (by omega)).bind fun r' aj=>Tot.need (by omega) (Tot.mk (by simp only[Wai,Waj,Wam];omega)))))
  ·intro e least ok hd I
   show Tot (zfj (zay n).1 (zay n).2 e least) _
   unfold zfj;exact(z47 _).bind fun k _=>Tot.ite (fun _=>(ih1 e ok (by omega) I).bind fun r hr=>Tot.need (by omega) (Tot.need (by omega) (Tot.mk (by simp only[Wai,Waj,Wam];omega)))) fun _=>(ih1 e ok (by omega) I).bind fun r hr=>Tot.mk (by omega)
theorem ykf {e:xsk} (ok:fmE e) (U:depE e<=1000) (I:szE e<=1000000):Tot (zhe e) fun r=>r.length<=64*szE e:=(yex 1000000).1 e ok (by omega) I
theorem ybv (e:xsk):Tot (zar e) fun b=>b=true->fmE e/\depE e<=24/\szE e<=16384/\∃t,zhe e=some t/\t.length<=16384:=by
 unfold zar
 refine(yep e).bind fun r hr=>Tot.ite (fun h0=>?_) fun _=>Tot.mk fun h=>by cases h
 obtain⟨ok,I,U⟩:=hr h0;obtain⟨t,ht,hl⟩:=ykf ok (by omega) (by omega);rw[ht,Waa];exact Tot.mk fun h=>⟨ok,I,U,t,rfl,by have:=of_decide_eq_true h;omega⟩
theorem zq9 (e:xsk):Tot (za1 e) fun t=>t.length<=16384:=by
 unfold za1;refine(ybv e).bind fun b hb=>Tot.ite (fun h=>?_) fun _=>Tot.mk (by simp);obtain⟨_,_,_,t,ht,hl⟩:=hb h;rw[ht,Waa];exact Tot.mk hl
theorem z4o (e:xsk):Tot (zdr e ⟨0,0,0,[],[]⟩) fun b=>b=true->e=⟨0,0,0,[],[]⟩:=by
 show Tot (zcu (zdv 999999) e _) _
 unfold zcu
 refine Tot.ite (fun h1=>Tot.ite (fun h2=>Tot.ite (fun h3=>Tot.ite (fun h4=>Tot.ite (fun h5=>?_) fun _=>Tot.mk fun h=>by cases h) fun _=>Tot.mk fun h=>by cases h) fun _=>Tot.mk fun h=>by cases h) fun _=>Tot.mk fun h=>by cases h) fun _=>Tot.mk fun h=>by cases h
 have I:e.Args.length=0:=by simpa using h5
 rw[zb8 (r:=.inr ()) (by simp[zev,I]),Waa];refine Tot.mk fun _=>?_;obtain⟨op,N,K,name,args⟩:=e;simp only at h1 h2 h3 h4 I;rw[h1,h2,h3,h4,WaM I]
end Go.Lz

end
section
namespace Go.Lz
abbrev noE:xsk:=⟨0,0,0,[],[]⟩
mutual
def nS:xsl->Nat
 |⟨_,_,_,_,_,body,I⟩=>nSs body+nSs I+1
def nSs:List xsl->Nat
 |[]=>0
 |s::ss=>nS s+nSs ss
end
theorem ylf (s:xsl):nS s=nSs s.Body+nSs s.Else+1:=by cases s;rw[nS]
theorem z10:∀{l m:List xsl},nSs (l++m)=nSs l+nSs m
 |[],m=>by simp[nSs]
 |e::es,m=>by rw[Wbk,nSs,nSs,z10 (l:=es)];omega
mutual
def fmS:xsl->Prop
 |⟨kind,name,target,value,args,body,I⟩=>zcr ⟨kind,name,target,value,args,body,I⟩=some true/\fmSs body/\fmSs I
def fmSs:List xsl->Prop
 |[]=>True
 |s::ss=>fmS s/\fmSs ss
end
theorem z3w (s:xsl):fmS s=(zcr s=some true/\fmSs s.Body/\fmSs s.Else):=by cases s;rw[fmS]
theorem z63:∀{l m:List xsl},fmSs (l++m)↔fmSs l/\fmSs m
 |[],m=>by simp[fmSs]
 |e::es,m=>by rw[Wbk,fmSs,fmSs,z63 (l:=es),and_assoc]
theorem zwv:∀{l:List xsl},fmSs l->∀x∈l,fmS x
 |[],_,x,I=>by cases I
 |e::es,h,x,I=>by
  rw[fmSs]at h
  rcases Wax.1 I with rfl|I
  ·exact h.1
  ·exact zwv h.2 x I
structure GoodE (e:xsk):Prop where
 ok:fmE e
 dep:depE e<=25
 sz:szE e<=20000
theorem ya6 (e:xsk):Tot (zar e) fun b=>b=true->fmE e/\depE e<=24/\szE e<=16384:=
 (ybv e).imp fun b hb h=>⟨(hb h).1,(hb h).2.1,(hb h).2.2.1⟩
theorem z60 (e:xsk):Tot (zar e) fun b=>b=true->GoodE e:=
 (ya6 e).imp fun b hb h=>⟨(hb h).1,by have:=(hb h).2.1;omega,by have:=(hb h).2.2;omega⟩
theorem ycp (e:xsk):Tot (zff e) fun b=>b=true->GoodE e/\(e.Op=2\/(e.Op=3/\e.Args.length=1)):=by
 have no:∀{Q:Prop},Tot (some false) fun b=>b=true->Q:=Tot.mk fun h=>by cases h
 unfold zff;refine Tot.ite (fun o=>(z60 e).bind fun b hb=>Tot.mk fun h=>⟨hb h,.inl o⟩) fun o2=>Tot.ite (fun I=>Tot.ite (fun a=>Tot.ite (fun n=>Tot.ite (fun k=>?_) fun _=>no) fun _=>no) fun _=>no) fun _=>no;obtain⟨b,hb,_⟩:=zty e.Name;rw[hb,Waa];refine Tot.ite (fun U=>?_) fun _=>no;subst U;obtain⟨op,N,K,name,args⟩:=e;simp only at I a n k hb|-;subst I;subst n;subst k
 match args,a with
 |[x],_=>
  rw[Wau,Waa];refine(ya6 x).bind fun b hx=>Tot.mk fun h=>⟨?_,.inr ⟨rfl,rfl⟩⟩;obtain⟨g1,g2,g3⟩:=hx h;refine⟨?_,by simp only[depE,znt];omega,by simp only[szE,szEs];omega⟩;rw[fmE];refine⟨?_,g1,trivial⟩;simp[zct,hb]
theorem z3f (e:xsk):Tot (zau e) fun b=>b=true->e=noE:=by
 unfold zau;exact(z4o e).bind fun b hb=>Tot.mk hb
theorem yfo (l:List xsk):Tot (zcs l) fun b=>b=true->∀x∈l,GoodE x:=by
 unfold zcs
 refine Tot.bind (Tot.loop (fun i=>i<=l.length/\∀x∈l.take i,GoodE x) (R:=fun r=>match r with|.inl b=>b=true->∀x∈l,GoodE x|.inr ()=>∀x∈l,GoodE x) (fun i=>l.length-i) ⟨Waf _,by simp⟩ fun i ⟨hi,hI⟩=>?_) fun r hr=>by
  cases r with
  |inl b=>exact Tot.mk hr
  |inr u=>exact Tot.mk fun _=>hr
 unfold zj5;refine Tot.ite (fun h=>?_) fun h=>Tot.mk ?_
 ·have I:i<l.length:=by omega
  refine(Tot.get I).bind fun x hx=>(z60 x).bind fun b hb=>Tot.ite (fun U=>Tot.mk ⟨⟨I,fun y hy=>?_⟩,by simp only;omega⟩) fun _=>Tot.mk fun h=>by cases h
  rw[zk4 I]at hy
  rcases WaG.1 hy with hy|hy
  ·exact hI y hy
  ·rw[WaK]at hy;rw[hy,<-hx.2];exact hb U
 ·have:i=l.length:=by omega
  subst this;rwa[Wbs]at hI
structure z4g (s:xsl):Prop where
 name:s.Name.length<=32
 args:∀x∈s.Args,GoodE x
 alen:s.Args.length<=16384
 kinds:(s.Kind=1/\s.Body=[]/\s.Else=[]/\s.Args=[]/\GoodE s.Target/\(s.Target.Op=2\/(s.Target.Op=3/\s.Target.Args.length=1))/\GoodE s.Value)\/((s.Kind=2\/s.Kind=3)/\s.Args=[]/\s.Target=noE/\GoodE s.Value)\/(s.Kind=4/\s.Args.length=2/\s.Target=noE/\s.Value=noE)\/(s.Kind=5/\s.Body=[]/\s.Else=[]/\s.Target=noE/\s.Value=noE)
theorem nilL {α:Type} {l:List α} (h:(l.length:Int)=0):l=[]:=WaM (by omega)
theorem ybb (s:xsl):Tot (zcr s) fun b=>b=true->z4g s:=by
 have no:∀{Q:Prop},Tot (some false) fun b=>b=true->Q:=Tot.mk fun h=>by cases h
 have n0:∀{l:Str},l=[]->l.length<=32:=fun h=>by rw[h];exact Waf _
 have a0:(s.Args.length:Int)=0->(∀x∈s.Args,GoodE x)/\s.Args.length<=16384:=fun h=>by rw[nilL h];exact⟨fun x hx=>(by cases hx),Waf _⟩
 have I:(s.Kind=2\/s.Kind=3)->s.Name=[]->(s.Args.length:Int)=0->Tot ((zau s.Target).bind fun aa=>if aa=true then((zar s.Value).bind fun ab=>some ab)else(some false)) fun b=>b=true->z4g s:=fun k n a=>
  (z3f _).bind fun b hb=>Tot.ite (fun ht=>(z60 _).bind fun c hc=>Tot.mk fun h=>⟨n0 n,(a0 a).1,(a0 a).2,.inr (.inl ⟨k,nilL a,hb ht,hc h⟩)⟩) fun _=>no
 have k4:s.Kind=4->Tot ((zav s.Name).bind fun ad=>if ad=true then(if(s.Args.length:Int)=2 then((zcs s.Args).bind fun ae=>if ae=true then(if(s.Else.length:Int)=0 then((zau s.Target).bind fun af=>if af=true then((zau s.Value).bind fun U=>some U)else(some false))else(some false))else(some false))else(some false))else(some false)) fun b=>b=true->z4g s:=fun k=>
  (zty _).bind fun b1 h1=>Tot.ite (fun t1=>Tot.ite (fun l=>(yfo _).bind fun b2 h2=>Tot.ite (fun t2=>Tot.ite (fun e=>(z3f _).bind fun b3 h3=>Tot.ite (fun t3=>(z3f _).bind fun b4 h4=>Tot.mk fun t4=>⟨(h1 t1).1,h2 t2,by omega,.inr (.inr (.inl ⟨k,by omega,h3 t3,h4 t4⟩))⟩) fun _=>no) fun _=>no) fun _=>no) fun _=>no) fun _=>no
 unfold zcr;refine Tot.ite (fun hb=>?_) fun hb=>?_
 ·refine Tot.ite (fun k=>Tot.ite (fun he=>Tot.ite (fun n=>Tot.ite (fun a=>(ycp _).bind fun b1 h1=>Tot.ite (fun t1=>(z60 _).bind fun b2 h2=>Tot.mk fun t2=>⟨n0 n,(a0 a).1,(a0 a).2,.inl ⟨k,nilL hb,nilL he,nilL a,(h1 t1).1,(h1 t1).2,h2 t2⟩⟩) fun _=>no) fun _=>no) fun _=>no) fun _=>no) fun _=>?_
  refine Tot.ite (fun k=>Tot.ite (fun n=>Tot.ite (fun a=>I (.inl k) n a) fun _=>no) fun _=>no) fun _=>?_;refine Tot.ite (fun k=>Tot.ite (fun n=>Tot.ite (fun a=>Tot.ite (fun _=>I (.inr k) n a) fun _=>no) fun _=>no) fun _=>no) fun _=>?_;refine Tot.ite k4 fun _=>Tot.ite (fun k=>Tot.ite (fun he=>?_) fun _=>no) fun _=>no;exact(zty _).bind fun b1 h1=>Tot.ite (fun t1=>(z3f _).bind fun b2 h2=>Tot.ite (fun t2=>(z3f _).bind fun b3 h3=>Tot.ite (fun t3=>Tot.ite (fun l=>(yfo _).bind fun b4 h4=>Tot.mk fun t4=>⟨(h1 t1).1,h4 t4,by omega,.inr (.inr (.inr ⟨k,nilL hb,nilL he,h2 t2,h3 t3⟩))⟩) fun _=>no) fun _=>no) fun _=>no) fun _=>no
 ·refine Tot.ite (fun _=>no) fun _=>?_
  refine Tot.ite (fun k=>Tot.ite (fun n=>Tot.ite (fun a=>I (.inl k) n a) fun _=>no) fun _=>no) fun _=>?_;refine Tot.ite (fun k=>Tot.ite (fun n=>Tot.ite (fun a=>Tot.ite (fun _=>I (.inr k) n a) fun _=>no) fun _=>no) fun _=>no) fun _=>?_;exact Tot.ite k4 fun _=>Tot.ite (fun _=>no) fun _=>no
theorem zy3 {s:xsl} (h:fmS s):z4g s:=by
 rw[z3w]at h;obtain⟨b,hb,hq⟩:=ybb s;rw[h.1]at hb;cases hb;exact hq rfl
theorem yh0 (e:xsk) (h:e.Op=3->e.Args.length=1):Tot (zf1 e) fun r=>r.length<=16386:=by
 unfold zf1;refine Tot.ite (fun o=>?_) fun _=>Tot.mk (by simp)
 have hl:0<e.Args.length:=by have:=h o;omega
 exact(Tot.get hl).bind fun x _=>(zq9 x).bind fun r hr=>Tot.need (by omega) (Tot.need (by omega) (Tot.mk (by simp only[Wai,Waj,Wam];omega)))
theorem ya3 {s:xsl} (F:z4g s):Tot (zcq s) fun r=>1<=r.length/\r.length<=300000000:=by
 have hn:=F.name
 have ha:=F.alen
 unfold zcq;refine Tot.ite (fun k=>?_) fun U=>?_
 ·have hi:s.Target.Op=3->s.Target.Args.length=1:=fun h=>by have:=F.kinds;omega
  exact(zq9 _).bind fun r1 h1=>(yh0 _ hi).bind fun r2 h2=>Tot.need (by omega) (Tot.need (by omega) ((zq9 _).bind fun r3 h3=>Tot.need (by omega) (Tot.need (by omega) (Tot.mk (by simp only[Wai,Waj,Wam];omega)))))
 refine Tot.ite (fun k=>(zq9 _).bind fun r1 h1=>Tot.need (by omega) (Tot.need (by omega) (Tot.mk (by simp only[Wai,Waj,Wam];omega)))) fun k2=>?_;refine Tot.ite (fun k=>(zq9 _).bind fun r1 h1=>Tot.need (by omega) (Tot.need (by omega) (Tot.mk (by simp only[Wai,Waj,Wam];omega)))) fun k3=>?_;refine Tot.ite (fun k=>?_) fun k4=>?_
 ·have hl:s.Args.length=2:=by have:=F.kinds;omega
  exact Tot.need (by omega) (Tot.need (by omega) ((Tot.get (by omega)).bind fun x _=>(zq9 x).bind fun r1 h1=>Tot.need (by omega) (Tot.need (by omega) ((Tot.get (by omega)).bind fun y _=>(zq9 y).bind fun r2 h2=>Tot.need (by omega) (Tot.need (by omega) (Tot.mk (by simp only[Wai,Waj,Wam];omega)))))))
 refine Tot.need (by omega) (Tot.bind (Tot.loop (fun x=>x.2<=s.Args.length/\x.1.length<=33+16386*x.2) (R:=fun r=>r.length<=299999900) (fun x=>s.Args.length-x.2) ⟨Waf _,by simp only[Wai,Waj,Wam];omega⟩ fun⟨t,i⟩ ⟨hi,hI⟩=>?_) fun r hr=>Tot.need (by omega) (Tot.mk (by simp only[Wai,Waj,Wam];omega)));simp only at hi hI;unfold zj3;refine Tot.ite (fun h=>?_) fun h=>Tot.mk (show t.length<=299999900 by omega)
 have I:i<s.Args.length:=by omega
 exact Tot.ite (fun _=>Tot.need (by omega) ((Tot.get I).bind fun x _=>(zq9 x).bind fun r hr=>Tot.need (by omega) (Tot.mk ⟨⟨I,by simp only[Wai,Waj,Wam];omega⟩,by simp only;omega⟩))) fun _=>
  (Tot.get I).bind fun x _=>(zq9 x).bind fun r hr=>Tot.need (by omega) (Tot.mk ⟨⟨I,by simp only[Wai];omega⟩,by simp only;omega⟩)
theorem z5q:∀(d fuel:Nat),d<fuel->d<=1000->∀(l:List xsl) (left:Int),left<=1000000->Tot (zcf fuel l (d:Int) left) fun r=>r<=1000000/\(0<=r->fmSs l/\(nSs l:Int)+r<=left)
 |d,0,h,_,_,_,_=>by omega
 |d,fuel+1,h,hd,[],left,hl=>by
  unfold zcf zdd;refine Tot.ite (fun _=>by omega) fun _=>Tot.ite (fun h=>by simp at h) fun _=>Tot.ite (fun _=>Tot.mk (by omega)) fun _=>?_;rw[zb8 (r:=.inr left) (by simp[zjh]),Waa];exact Tot.mk ⟨hl,fun _=>⟨by rw[fmSs];trivial,by simp[nSs]⟩⟩
 |0,fuel+1,_,_,s::l,left,_=>by
  unfold zcf zdd
  exact Tot.ite (fun _=>Tot.mk (by omega)) fun _=>Tot.ite (fun _=>Tot.ite (fun _=>Tot.mk (by omega)) fun h=>by omega) fun h=>by simp at h
 |d+1,fuel+1,h,hd,s::l',left,hl=>by
  generalize U:s::l'=l
  have ae:0<l.length:=by rw[<-U];simp
  have e1:w64 (((d+1:Nat):Int)-1)=(d:Int):=by rw[zfr (by omega) (by omega)];omega
  unfold zcf zdd
  refine Tot.ite (fun _=>by omega) fun _=>Tot.ite (fun _=>?_) fun h=>by omega
  refine Tot.ite (fun h=>by omega) fun _=>Tot.ite (fun _=>Tot.mk (by omega)) fun _=>?_
  refine Tot.bind (Tot.loop (fun x=>x.2<=l.length/\x.1<=1000000/\(0<=x.1->fmSs (l.take x.2)/\(nSs (l.take x.2):Int)+x.1<=left))
   (R:=fun r=>match r with|.inl r=>r=-1|.inr r=>r<=1000000/\(0<=r->fmSs l/\(nSs l:Int)+r<=left)) (fun x=>l.length-x.2) ⟨Waf _,hl,fun _=>⟨by rw[List.take_zero,fmSs];trivial,by simp[nSs]⟩⟩ fun⟨lf,i⟩ ⟨a0,a1,a2⟩=>?_) fun r hr=>by
     cases r with
     |inl r=>exact Tot.mk (by simp only at hr;omega)
     |inr r=>exact Tot.mk hr
  simp only at a0 a1 a2;unfold zji;refine Tot.ite (fun hi=>?_) fun hi=>Tot.mk ⟨a1,fun h0=>?_⟩
  ·refine Tot.ite (fun h0=>?_) fun h0=>Tot.mk ⟨a1,fun h=>(h0 h).elim⟩
   have I:i<l.length:=by omega
   obtain⟨b0,b1⟩:=a2 h0;rw[Wac I,Waa]
   generalize hx:l[i]=x
   obtain⟨b,hb,hF⟩:=ybb x;rw[hb,Waa];refine Tot.ite (fun aa=>?_) fun _=>Tot.mk rfl;subst aa;refine(ya3 (hF rfl)).bind fun r hr=>?_;rw[zfr (n:=lf-(r.length:Int)) (by omega) (by omega),e1];refine Tot.ite (fun h1=>?_) fun h1=>Tot.mk ⟨⟨I,by simp only;omega,fun h=>(h1 h).elim⟩,by simp only;omega⟩;refine(z5q d fuel (by omega) (by omega) x.Body (lf-r.length) (by omega)).bind fun r1 ab=>Tot.ite (fun h2=>?_) fun h2=>Tot.mk ⟨⟨I,by simp only;omega,fun h=>(h2 h).elim⟩,by simp only;omega⟩
   refine(z5q d fuel (by omega) (by omega) x.Else r1 (by omega)).bind fun r2 ad=>Tot.mk ⟨⟨I,by simp only;omega,fun h3=>?_⟩,by simp only;omega⟩;simp only at h3|-;obtain⟨c0,c1⟩:=ab.2 h2;obtain⟨d0,d1⟩:=ad.2 h3;rw[zk4 I,z63,z10,hx];simp only[fmSs,nSs];rw[z3w,ylf];exact⟨⟨b0,⟨hb,c0,d0⟩,trivial⟩,by omega⟩
  ·have:i=l.length:=by omega
   subst this
   have:=a2 h0
   rwa[Wbs]at this
theorem yl2 (l:List xsl):Tot (zhd l) fun b=>b=true->fmSs l/\nSs l<=16384:=by
 unfold zhd
 exact(z5q 24 1000000 (by omega) (by omega) l 16384 (by omega)).bind fun r hr=>Tot.mk fun h=>by
  have h0:=of_decide_eq_true h
  have:=hr.2 h0
  exact⟨this.1,by omega⟩
theorem z8y:∀(n:Nat) (l:List xsl),fmSs l->zgb l+1<=n->nSs l<=16384->Tot (zfd n l) fun r=>r.length<=300000100*nSs l
 |0,l,_,h,_=>by omega
 |n+1,l,ok,hd,hs=>by
  show Tot (zfe (zfd n) l) _
  unfold zfe;refine Tot.bind (Tot.loop (fun x=>x.2<=l.length/\x.1.length<=300000100*nSs (l.take x.2)) (R:=fun r=>r.length<=300000100*nSs l) (fun x=>l.length-x.2) ⟨Waf _,by simp⟩ fun⟨t,i⟩ ⟨hi,hI⟩=>?_) fun r hr=>Tot.mk hr;simp only at hi hI;unfold zj2;refine Tot.ite (fun h=>?_) fun h=>Tot.mk ?_
  ·have h':i<l.length:=by omega
   rw[Wac h'];simp only[Waa]
   have U:=Wap h'
   have ab:nSs (l.take (i+1))<=nSs l:=by
    have:=z10 (l:=l.take (i+1)) (m:=l.drop (i+1))
    rw[WbT]at this;omega
   have aa:nSs (l.take (i+1))=nSs (l.take i)+nS l[i]:=by rw[zk4 h',z10];simp[nSs]
   have I:=zwv ok _ U
   have dx:=znk U
   generalize l[i]=x at aa I dx
   have F:=zy3 I
   rw[z3w]at I;rw[zup]at dx;rw[ylf]at aa
   have hB:=z8y n x.Body I.2.1 (by omega) (by omega)
   have hE:=z8y n x.Else I.2.2 (by omega) (by omega)
   have go:∀t':Str,t'.length<=300000100*nSs (l.take (i+1))->Tot (some (Sum.inl (t',i+1)):Option ((Str×Nat)⊕Str)) (Rd (fun x=>x.2<=l.length/\x.1.length<=300000100*nSs (l.take x.2)) (fun r=>r.length<=300000100*nSs l) (fun x=>l.length-x.2) (l.length-i)):=fun t' ht=>Tot.mk ⟨⟨h',ht⟩,by simp only;omega⟩
   refine Tot.ite (fun h0=>Tot.need (by omega) ((ya3 F).bind fun r hr=>Tot.need (by omega) (hB.bind fun b hb=>?_))) fun h0=>(ya3 F).bind fun r hr=>Tot.need (by omega) (hB.bind fun b hb=>?_)
   all_goals repeat' (first|refine Tot.need (by omega) ?_|refine Tot.ite (fun _=>?_) (fun _=>?_)|refine hE.bind fun e he=>?_|exact go _ (by simp only[Wai,Waj,Wam];omega))
  ·have:i=l.length:=by omega
   subst this;rwa[Wbs]at hI
theorem yco {l:List xsl} (ok:fmSs l) (U:zgb l<=1000) (I:nSs l<=16384):Tot (zhc l) fun r=>r.length<=5000000000000:=by
 unfold zhc;exact(z8y 1000000 l ok (by omega) I).bind fun r hr=>Tot.mk (by omega)
end Go.Lz

end
section
namespace Go.Lz
theorem z5w {α:Type} {xs:List α} {g:α->Prop} {f:Nat->Option (Nat⊕(Bool⊕Unit))} (step:∀i (h:i<xs.length),Tot (f i) fun r=>r=.inl (i+1)/\g xs[i]\/r=.inr (.inl false)) (last:f xs.length=some (.inr (.inr ()))):
  Tot (loop f 0) fun r=>r=.inl false\/r=.inr ()/\∀x∈xs,g x:=by
 refine Tot.loop (fun i=>i<=xs.length/\∀x∈xs.take i,g x) (fun i=>xs.length-i) ⟨Waf _,by simp⟩ fun i ⟨hi,hI⟩=>?_
 by_cases h:i<xs.length
 ·refine(step i h).imp fun r hr=>?_
  rcases hr with⟨rfl,I⟩|rfl
  ·refine⟨⟨h,fun y hy=>?_⟩,by simp only;omega⟩
   rw[zk4 h]at hy
   rcases WaG.1 hy with hy|hy
   ·exact hI y hy
   ·rw[WaK]at hy;rw[hy];exact I
  ·exact .inl rfl
 ·have:i=xs.length:=by omega
  subst this;rw[Wbs]at hI;exact⟨_,last,.inr ⟨rfl,hI⟩⟩
theorem yl3 (l:List Str) (s:Str):Tot (zha l s) fun _=>True:=by
 unfold zha
 refine Tot.bind (Tot.loop (fun i=>i<=l.length) (R:=fun _=>True) (fun i=>l.length-i) (Waf _) fun i hi=>?_) fun r _=>by cases r<;>exact Tot.mk trivial
 unfold zj1;refine Tot.ite (fun h=>?_) fun _=>Tot.mk trivial
 have I:i<l.length:=by omega
 exact(Tot.get I).bind fun x _=>Tot.ite (fun _=>Tot.mk trivial) fun _=>Tot.mk ⟨I,by simp only;omega⟩
def zyu (p:xsj) (n:Int):Prop:=0<=n/\n<(p.Lattice.Names.length:Int)
theorem zuk (p:xsj) (n:Int):Tot (za5 p n) fun b=>b=true->zyu p n:=by
 unfold za5 za4;refine Tot.bind (Tot.ite (fun h=>Tot.mk (Q:=fun b=>b=true->zyu p n) fun h2=>⟨h,of_decide_eq_true h2⟩) fun _=>Tot.mk fun h=>by cases h) fun b hb=>Tot.mk hb
theorem z4d (k:Int):Tot (zbb k) fun r=>r≠0->k=1\/k=2\/k=3\/k=4:=by
 unfold zbb;exact Tot.ite (fun h=>Tot.mk fun _=>by omega) fun _=>Tot.ite (fun h=>Tot.mk fun _=>by omega) fun _=>Tot.ite (fun h=>Tot.mk fun _=>by omega) fun _=>Tot.ite (fun h=>Tot.mk fun _=>by omega) fun _=>Tot.mk fun h=>(h rfl).elim
theorem z8w (t:xsz):Tot (zbz t) fun r=>r=0->(t.Kind=1\/t.Kind=2\/t.Kind=3\/t.Kind=4)/\0<=t.Len/\t.Len<=32/\-32768<=t.Low/\t.Low<=32767/\(t.Len=0->t.Low=0):=by
 have no:∀{Q:Prop},Tot (some (6:Int)) fun b=>b=0->Q:=Tot.mk fun h=>by cases h
 unfold zbz;refine(z4d _).bind fun r hr=>Tot.ite (fun _=>no) fun h=>Tot.ite (fun _=>no) fun _=>Tot.ite (fun _=>no) fun _=>?_
 have I:=hr h
 exact Tot.ite (fun _=>Tot.ite (fun _=>Tot.ite (fun _=>no) fun _=>Tot.ite (fun _=>no) fun _=>Tot.mk fun _=>⟨I,by omega,by omega,by omega,by omega,by omega⟩) fun _=>no) fun _=>Tot.ite (fun _=>no) fun _=>Tot.ite (fun _=>no) fun _=>Tot.mk fun _=>⟨I,by omega,by omega,by omega,by omega,by omega⟩
theorem zxh (k n:Int):Tot (zbm k n) fun b=>b=true->(-2147483648<=n/\n<2147483648)/\(k=1->n=0\/n=1)/\(k=2->-32768<=n/\n<32768):=by
 unfold zbm;refine Tot.ite (fun _=>Tot.ite (fun _=>Tot.mk fun _=>by omega) fun _=>Tot.mk fun h=>by have:=of_decide_eq_true h;omega) fun _=>?_
 have I:Tot (zds k) fun r=>0<=r/\r<=2147483648/\(k=2->r=32768):=by
  unfold zds;exact Tot.ite (fun _=>Tot.mk ⟨by decide,by decide,fun _=>rfl⟩) fun h=>Tot.mk ⟨by decide,by decide,fun U=>(h U).elim⟩
 obtain⟨a,ha,aa⟩:=I
 refine(z4d _).bind fun r _=>Tot.ite (fun _=>?_) fun _=>Tot.mk fun h=>by cases h
 rw[ha,Waa,zfr (by omega) (by omega)]
 refine Tot.ite (fun _=>Tot.mk fun h=>?_) fun _=>Tot.mk fun h=>by cases h
 have:=of_decide_eq_true h
 omega
structure yce (p:xsj) (v:xsq):Prop where
 name:v.Name.length<=32
 kind:v.Type_.Kind=1\/v.Type_.Kind=2\/v.Type_.Kind=3\/v.Type_.Kind=4
 len:0<=v.Type_.Len/\v.Type_.Len<=32
 low:-32768<=v.Type_.Low/\v.Type_.Low<=32767
 mode:v.Mode=0\/v.Mode=1\/v.Mode=2
 scalar:v.Mode≠0->v.Type_.Len=0
 label:v.Label=-1\/zyu p v.Label
 safe:-2147483648<=v.Safe/\v.Safe<2147483648
 zero:v.Type_.Len=0->v.Type_.Low=0
 vsafe:(v.Type_.Kind=1->v.Safe=0\/v.Safe=1)/\(v.Type_.Kind=2->-32768<=v.Safe/\v.Safe<32768)
theorem yoa (p:xsj) (v:xsq):Tot (zd7 p v) fun b=>b=true->yce p v:=by
 have no:∀{Q:Prop},Tot (some false) fun b=>b=true->Q:=Tot.mk fun h=>by cases h
 unfold zd7;refine(zty _).bind fun b hb=>Tot.ite (fun h1=>(z8w _).bind fun r hr=>Tot.ite (fun h2=>?_) fun _=>no) fun _=>no;obtain⟨t1,t2,t3,t4,t5,t6⟩:=hr h2
 have n:=(hb h1).1
 refine Tot.ite (fun m=>Tot.ite (fun s=>?_) fun _=>no) fun I=>?_
 ·refine Tot.ite (fun l=>Tot.ite (fun e=>Tot.mk fun _=>⟨n,t1,⟨t2,t3⟩,⟨t4,t5⟩,.inl m,fun h=>(h m).elim,.inl l,by omega,t6,by omega⟩) fun e=>Tot.mk fun _=>⟨n,t1,⟨t2,t3⟩,⟨t4,t5⟩,.inl m,fun h=>(h m).elim,.inl l,by omega,t6,by omega⟩) fun l=>?_
  exact(zuk _ _).bind fun b hl=>Tot.ite (fun hb=>Tot.ite (fun e=>Tot.mk fun _=>⟨n,t1,⟨t2,t3⟩,⟨t4,t5⟩,.inl m,fun h=>(h m).elim,.inr (hl hb),by omega,t6,by omega⟩) fun e=>Tot.mk fun _=>⟨n,t1,⟨t2,t3⟩,⟨t4,t5⟩,.inl m,fun h=>(h m).elim,.inr (hl hb),by omega,t6,by omega⟩) fun _=>no
 refine Tot.ite (fun m=>Tot.ite (fun s=>(zuk _ _).bind fun b hl=>Tot.ite (fun hb=>Tot.mk fun e=>⟨n,t1,⟨t2,t3⟩,⟨t4,t5⟩,.inr (.inl m),fun _=>of_decide_eq_true e,.inr (hl hb),by omega,t6,by omega⟩) fun _=>no) fun _=>no) fun U=>?_;exact Tot.ite (fun m=>(zuk _ _).bind fun b hl=>Tot.ite (fun hb=>Tot.ite (fun e=>(zxh _ _).bind fun c hc=>Tot.mk fun h=>⟨n,t1,⟨t2,t3⟩,⟨t4,t5⟩,.inr (.inr m),fun _=>e,.inr (hl hb),(hc h).1,t6,(hc h).2⟩) fun _=>no) fun _=>no) fun _=>no
structure yn0 (p:xsj) (b:xsw):Prop where
 name:b.Name.length<=32
 kind:b.Kind.length<=50
 label:zyu p b.Label
structure yfr (p:xsj) (s:xsy):Prop where
 name:s.Name.length<=32
 frm:zyu p s.From
 to:zyu p s.To
structure zkk (p:xsj):Prop where
 nl:p.Lattice.Names.length<=8
 ns:p.Sites.length<=8
 nv:p.Vars.length<=48
 nb:p.Blocks.length<=12
 nt:p.Tasks.length<=4
 nb2:p.Lattice.Below.length<=16384
 names:∀s∈p.Lattice.Names,s.length<=32
 below:∀b∈p.Lattice.Below,zyu p b.a0/\zyu p b.a1
 sites:∀s∈p.Sites,yfr p s
 vars:∀v∈p.Vars,yce p v
 blocks:∀b∈p.Blocks,yn0 p b
theorem yhc (p:xsj):Tot (zf0 p) fun b=>b=true->zkk p:=by
 have no:∀{Q:Prop},Tot (some false) fun b=>b=true->Q:=Tot.mk fun h=>by cases h
 have bad:∀{g:Prop} {i:Nat},Tot (some (.inr (.inl false)):Option (Nat⊕(Bool⊕Unit))) fun r=>r=.inl (i+1)/\g\/r=.inr (.inl false):=Tot.mk (.inr rfl)
 unfold zf0;refine Tot.ite (fun _=>no) fun n1=>Tot.ite (fun _=>no) fun n2=>Tot.ite (fun _=>no) fun n3=>Tot.ite (fun _=>no) fun n4=>Tot.ite (fun _=>no) fun n5=>Tot.ite (fun _=>no) fun n6=>?_;refine Tot.bind (z5w (xs:=p.Lattice.Names) (g:=fun s=>s.length<=32) (fun i h=>?_) (by simp[zgt])) fun r hr=>?_
 ·unfold zgt
  rw[if_pos (by omega),Wac h,Waa];exact(zty _).bind fun b hb=>Tot.ite (fun h1=>(yl3 _ _).bind fun k _=>Tot.ite (fun _=>Tot.mk (.inl ⟨rfl,(hb h1).1⟩)) fun _=>bad) fun _=>bad
 rcases hr with rfl|⟨rfl,I⟩
 ·exact no
 refine Tot.bind (z5w (xs:=p.Lattice.Below) (g:=fun b=>zyu p b.a0/\zyu p b.a1) (fun i h=>?_) (by simp[zgs])) fun r hr=>?_
 ·unfold zgs
  rw[if_pos (by omega),Wac h,Waa];exact(zuk _ _).bind fun b hb=>Tot.ite (fun h1=>(zuk _ _).bind fun c hc=>Tot.ite (fun h2=>Tot.mk (.inl ⟨rfl,hb h1,hc h2⟩)) fun _=>bad) fun _=>bad
 rcases hr with rfl|⟨rfl,U⟩
 ·exact no
 refine Tot.bind (z5w (xs:=p.Sites) (g:=yfr p) (fun i h=>?_) (by simp[zgr])) fun r hr=>?_
 ·unfold zgr
  rw[if_pos (by omega),Wac h,Waa];exact(zty _).bind fun a ha=>Tot.ite (fun h0=>(zuk _ _).bind fun b hb=>Tot.ite (fun h1=>(zuk _ _).bind fun c hc=>Tot.ite (fun h2=>Tot.mk (.inl ⟨rfl,(ha h0).1,hb h1,hc h2⟩)) fun _=>bad) fun _=>bad) fun _=>bad
 rcases hr with rfl|⟨rfl,g3⟩
 ·exact no
 refine Tot.bind (z5w (xs:=p.Vars) (g:=yce p) (fun i h=>?_) (by simp[zgq])) fun r hr=>?_
 ·unfold zgq
  rw[if_pos (by omega),Wac h,Waa];exact(yoa _ _).bind fun a ha=>Tot.ite (fun h0=>Tot.mk (.inl ⟨rfl,ha h0⟩)) fun _=>bad
 rcases hr with rfl|⟨rfl,g4⟩
 ·exact no
 refine Tot.bind (z5w (xs:=p.Blocks) (g:=yn0 p) (fun i h=>?_) (by simp[zgp])) fun r hr=>?_
 ·unfold zgp
  rw[if_pos (by omega),Wac h,Waa];exact(zty _).bind fun a ha=>Tot.ite (fun h0=>(ycb _ _ (Nat.le_of_ble_eq_true rfl)).bind fun b hb=>Tot.ite (fun h1=>(zuk _ _).bind fun c hc=>Tot.ite (fun h2=>Tot.mk (.inl ⟨rfl,(ha h0).1,WaF (hb h1) (Nat.le_of_ble_eq_true rfl),hc h2⟩)) fun _=>bad) fun _=>bad) fun _=>bad
 rcases hr with rfl|⟨rfl,g5⟩
 ·exact no
 exact Tot.mk fun _=>⟨by omega,by omega,by omega,by omega,by omega,by omega,I,U,g3,g4,g5⟩
structure z8q (p:xsj) (t:xs2):Prop where
 every:1<=t.Every/\t.Every<=65536
 prio:0<=t.Priority/\t.Priority<=255
 nbud:t.Budget.length=p.Lattice.Names.length
 bud:∀b∈t.Budget,0<=b/\b<=4096
 ok:fmSs t.Body
 n:nSs t.Body<=16384
theorem ygh (p:xsj):Tot (zfz p) fun b=>b=true->∀t∈p.Tasks,z8q p t:=by
 have bad:∀{g:Prop} {i:Nat},Tot (some (.inr (.inl false)):Option (Nat⊕(Bool⊕Unit))) fun r=>r=.inl (i+1)/\g\/r=.inr (.inl false):=Tot.mk (.inr rfl)
 unfold zfz;refine Tot.bind (z5w (xs:=p.Tasks) (g:=z8q p) (fun i h=>?_) (by simp[zgn])) fun r hr=>?_
 ·unfold zgn
  rw[if_pos (by omega),Wac h,Waa];refine Tot.ite (fun _=>bad) fun a1=>Tot.ite (fun _=>bad) fun a2=>Tot.ite (fun _=>bad) fun a3=>Tot.ite (fun _=>bad) fun U=>Tot.ite (fun a5=>(yl2 _).bind fun b hb=>Tot.ite (fun h1=>?_) fun _=>bad) fun _=>bad;refine Tot.bind (z5w (xs:=p.Tasks[i].Budget) (g:=fun b=>0<=b/\b<=4096) (fun k I=>?_) (by simp[zgm])) fun r hr=>?_
  ·unfold zgm
   rw[if_pos (by omega),Wac I,Waa];exact Tot.ite (fun _=>bad) fun b1=>Tot.ite (fun _=>bad) fun b2=>Tot.mk (.inl ⟨rfl,by omega,by omega⟩)
  rcases hr with rfl|⟨rfl,g⟩
  ·exact bad
  ·exact Tot.mk (.inl ⟨rfl,⟨by omega,by omega⟩,⟨by omega,by omega⟩,by omega,g,(hb h1).1,(hb h1).2⟩)
 rcases hr with rfl|⟨rfl,g⟩
 ·exact Tot.mk fun h=>by cases h
 ·exact Tot.mk fun _=>g
theorem z1n (n:Int) (h1:-10000000*900<n) (h2:n<9000000000):Tot (zb4 n) fun r=>r.length<=12:=by
 unfold zb4;refine Tot.ite (fun h=>?_) fun h=>(zn7 n (by omega) (by omega)).bind fun r hr=>Tot.mk (by omega);rw[zfr (by omega) (by omega)];exact(zn7 (0-n) (by omega) (by omega)).bind fun r hr=>Tot.need (by omega) (Tot.mk (by simp only[Wai,Waj,Wam];omega))
theorem yoe {p:xsj} {v:xsq} (g:yce p v):Tot (zij v.Type_) fun r=>r.length<=100:=by
 have k:=g.kind
 have l:=g.len
 have w:=g.low
 unfold zij;refine(Tot.idx (by omega) (by simp only[Waj,Wam];omega)).bind fun x I=>?_
 have U:x.length<=4:=by
  simp only[Wax,List.not_mem_nil,or_false]at I
  rcases I with rfl|rfl|rfl|rfl|rfl<;>decide
 refine Tot.ite (fun _=>Tot.mk (by omega)) fun _=>(z1n _ (by omega) (by omega)).bind fun r hr=>Tot.need (by omega) (Tot.need (by omega) ?_);rw[zfr (n:=v.Type_.Low+v.Type_.Len) (by omega) (by omega),zfr (by omega) (by omega)];exact(z1n _ (by omega) (by omega)).bind fun r2 aa=>Tot.need (by omega) (Tot.need (by omega) (Tot.need (by omega) (Tot.mk (by simp only[Wai,Waj,Wam];omega))))
theorem zxv {p:xsj} (P:zkk p) {n:Int} (h:zyu p n):Tot (idx p.Lattice.Names n) fun s=>s.length<=32:=
 (Tot.idx h.1 h.2).imp fun s I=>P.names s I
theorem yqi {p:xsj} (P:zkk p) {v:xsq} (g:yce p v):Tot (zik p v) fun r=>r.length<=300:=by
 have n:=g.name
 have m:=g.mode
 have s:=g.safe
 unfold zik;refine(Tot.idx (by omega) (by simp only[Waj,Wam];omega)).bind fun x U=>?_
 have aa:x.length<=7:=by
  simp only[Wax,List.not_mem_nil,or_false]at U
  rcases U with rfl|rfl|rfl<;>decide
 refine Tot.need (by omega) (Tot.need (by omega) ((yoe g).bind fun t ht=>Tot.need (by omega) ?_))
 have hs:=z1n v.Safe (by omega) (by omega)
 refine Tot.ite (fun hl=>?_) fun _=>?_
 ·have I:zyu p v.Label:=by exact g.label.resolve_left fun h=>by omega
  refine(zxv P I).bind fun y hy=>?_
  repeat' (first|refine Tot.need (by omega) ?_|refine Tot.ite (fun _=>?_) (fun _=>?_)|refine hs.bind fun e he=>?_|exact Tot.mk (by simp only[Wai,Waj,Wam];omega))
 ·repeat' (first|refine Tot.need (by omega) ?_|refine Tot.ite (fun _=>?_) (fun _=>?_)|refine hs.bind fun e he=>?_|exact Tot.mk (by simp only[Wai,Waj,Wam];omega))
theorem ykg {p:xsj} (P:zkk p) {t:xs2} (g:z8q p t) (hd:zgb t.Body<=1000):Tot (zg9 p t) fun r=>r.length<=5000000001000:=by
 have e:=g.every
 have pr:=g.prio
 have nb:=g.nbud
 have nl:=P.nl
 unfold zg9;refine(zn7 _ (by omega) (by omega)).bind fun r1 h1=>Tot.need (by omega) (Tot.need (by omega) ((zn7 _ (by omega) (by omega)).bind fun r2 h2=>Tot.need (by omega) ?_));refine Tot.bind (Tot.loop (fun x=>x.2<=t.Budget.length/\x.1.length<=50+60*x.2) (R:=fun r=>r.length<=600) (fun x=>t.Budget.length-x.2) ⟨Waf _,by simp only[Wai,Waj,Wam];omega⟩ fun⟨s,i⟩ ⟨hi,hI⟩=>?_) fun s hs=>?_
 ·simp only at hi hI
  unfold zj0;refine Tot.ite (fun h=>?_) fun _=>Tot.mk (show s.length<=600 by omega)
  have I:i<t.Budget.length:=by omega
  have U:i<p.Lattice.Names.length:=by omega
  have hn:=P.names _ (Wap U)
  have hb:=g.bud _ (Wap I)
  rw[Wac I,Wac U];simp only[Waa]
  have dg:=zn7 _ hb.1 (by omega)
  exact Tot.ite (fun _=>Tot.need (by omega) (Tot.need (by omega) (dg.bind fun d hd=>Tot.need (by omega) (Tot.need (by omega) (Tot.mk ⟨⟨I,by simp only[Wai,Waj,Wam];omega⟩,by simp only;omega⟩))))) fun _=>
   Tot.need (by omega) (Tot.need (by omega) (dg.bind fun d hd=>Tot.need (by omega) (Tot.need (by omega) (Tot.mk ⟨⟨I,by simp only[Wai,Waj,Wam];omega⟩,by simp only;omega⟩))))
 ·exact Tot.need (by omega) ((yco g.ok hd g.n).bind fun b hb=>Tot.ite (fun _=>Tot.need (by omega) (Tot.mk (by simp only[Wai,Waj,Wam];omega))) fun _=>Tot.need (by omega) (Tot.need (by omega) (Tot.need (by omega) (Tot.mk (by simp only[Wai,Waj,Wam];omega)))))
theorem z7z {α:Type} {xs:List α} {c b m:Nat} {f:Str×Nat->Option ((Str×Nat)⊕Str)} (hc:xs.length<=m) (step:∀(s:Str) i (h:i<xs.length),s.length<=b+c*i->s.length<=b+c*m->Tot (f (s,i)) fun r=>∃s',r=.inl (s',i+1)/\s'.length<=s.length+c) (last:∀s,f (s,xs.length)=some (.inr s)) (s:Str) (I:s.length<=b):
  Tot (loop f (s,0)) fun r=>r.length<=b+c*m:=by
 refine Tot.loop (fun x=>x.2<=xs.length/\x.1.length<=b+c*x.2) (fun x=>xs.length-x.2) ⟨Waf _,by simpa using I⟩ fun⟨s,i⟩ ⟨hi,hI⟩=>?_;simp only at hi hI
 have hm:c*i<=c*m:=Nat.mul_le_mul_left _ (by omega)
 by_cases h:i<xs.length
 ·refine(step s i h hI (by omega)).imp fun r hr=>?_
  obtain⟨s',rfl,hl⟩:=hr;exact⟨⟨h,by simp only[Nat.mul_add];omega⟩,by simp only;omega⟩
 ·have:i=xs.length:=by omega
  subst this;exact⟨_,last s,show s.length<=_ by omega⟩
theorem ycn {p:xsj} (P:zkk p) (T:∀t∈p.Tasks,z8q p t) (hd:∀t∈p.Tasks,zgb t.Body<=1000):Tot (zg8 p) fun _=>True:=by
 unfold zg8;refine Tot.bind (z7z (xs:=p.Lattice.Names) (c:=40) (b:=0) (m:=8) P.nl (fun s i h I hm=>?_) (fun s=>by simp[zhu]) [] (by simp)) fun s1 h1=>?_
 ·unfold zhu
  dsimp only
  have hn:=P.names _ (Wap h)
  rw[if_pos (by omega),Wac h,Waa];exact Tot.need (by omega) (Tot.need (by omega) (Tot.need (by omega) (Tot.mk ⟨_,rfl,by simp only[Wai,Waj,Wam];omega⟩)))
 refine Tot.bind (z7z (xs:=p.Lattice.Below) (c:=80) (b:=320) (m:=16384) P.nb2 (fun s i h I hm=>?_) (fun s=>by simp[zht]) s1 (by omega)) fun s2 h2=>?_
 ·unfold zht
  dsimp only
  have hn:=P.below _ (Wap h)
  rw[if_pos (by omega),Wac h,Waa];exact(zxv P hn.1).bind fun x U=>Tot.need (by omega) (Tot.need (by omega) ((zxv P hn.2).bind fun y hy=>Tot.need (by omega) (Tot.need (by omega) (Tot.need (by omega) (Tot.mk ⟨_,rfl,by simp only[Wai,Waj,Wam];omega⟩)))))
 refine Tot.bind (z7z (xs:=p.Sites) (c:=120) (b:=1500000) (m:=8) P.ns (fun s i h I hm=>?_) (fun s=>by simp[zhs]) s2 (by omega)) fun s3 h3=>?_
 ·unfold zhs
  dsimp only
  have hn:=P.sites _ (Wap h)
  have hl:=hn.name
  rw[if_pos (by omega),Wac h,Waa];exact Tot.need (by omega) (Tot.need (by omega) ((zxv P hn.frm).bind fun x U=>Tot.need (by omega) (Tot.need (by omega) ((zxv P hn.to).bind fun y hy=>Tot.need (by omega) (Tot.need (by omega) (Tot.need (by omega) (Tot.mk ⟨_,rfl,by simp only[Wai,Waj,Wam];omega⟩)))))))
 refine Tot.bind (z7z (xs:=p.Vars) (c:=300) (b:=1600000) (m:=48) P.nv (fun s i h I hm=>?_) (fun s=>by simp[zhr]) s3 (by omega)) fun s4 h4=>?_
 ·unfold zhr
  dsimp only;rw[if_pos (by omega),Wac h,Waa];exact(yqi P (P.vars _ (Wap h))).bind fun x U=>Tot.need (by omega) (Tot.mk ⟨_,rfl,by simp only[Wai];omega⟩)
 refine Tot.bind (z7z (xs:=p.Blocks) (c:=200) (b:=1700000) (m:=12) P.nb (fun s i h I hm=>?_) (fun s=>by simp[zhq]) s4 (by omega)) fun s5 h5=>?_
 ·unfold zhq
  dsimp only
  have hn:=P.blocks _ (Wap h)
  have hl:=hn.name
  have hk:=hn.kind
  rw[if_pos (by omega),Wac h,Waa];exact Tot.need (by omega) (Tot.need (by omega) (Tot.need (by omega) (Tot.need (by omega) ((zxv P hn.label).bind fun x U=>Tot.need (by omega) (Tot.need (by omega) (Tot.need (by omega) (Tot.mk ⟨_,rfl,by simp only[Wai,Waj,Wam];omega⟩)))))))
 refine Tot.bind (z7z (xs:=p.Tasks) (c:=5000000001000) (b:=1800000) (m:=4) P.nt (fun s i h I hm=>?_) (fun s=>by simp[zhp]) s5 (by omega)) fun s6 h6=>Tot.mk trivial;unfold zhp;dsimp only;rw[if_pos (by omega),Wac h,Waa];exact(ykg P (T _ (Wap h)) (hd _ (Wap h))).bind fun x U=>Tot.need (by omega) (Tot.mk ⟨_,rfl,by simp only[Wai];omega⟩)
theorem ybu (p:xsj) (I:∀t∈p.Tasks,zgb t.Body<=1000):Tot (zbl p) fun b=>b=true->zkk p/\∀t∈p.Tasks,z8q p t:=by
 unfold zbl
 exact(yhc p).bind fun a ha=>Tot.ite (fun h1=>(ygh p).bind fun b hb=>Tot.ite (fun h2=>(ycn (ha h1) (hb h2) I).bind fun _ _=>Tot.mk fun _=>⟨ha h1,hb h2⟩) fun _=>Tot.mk fun h=>by cases h) fun _=>Tot.mk fun h=>by cases h
end Go.Lz

end
section
namespace Go.Lz
def ztk {α:Type} (xs:List α) (p:α->Bool):Int:=match xs.findIdx? p with|some i=>(i:Int)|none=>-1
theorem ybc {α:Type} (n:Nat) (xs:List α) (p:α->Bool) (hn:n=xs.length) (d:α):(List.range n).find? (fun i=>p (xs.getD i d))=xs.findIdx? p:=by
 subst hn
 induction xs with
 |nil=>rfl
 |cons x xs I=>
  rw[Waj,List.range_succ_eq_map,WbP,List.findIdx?_cons];simp only[List.getD_cons_zero]
  cases U:p x with
  |true=>rfl
  |false=>
   rw[List.find?_map,<-I];simp only[Function.comp_def,Nat.succ_eq_add_one,List.getD_cons_succ];rfl
theorem zms {α:Type} {xs:List α} {p:α->Bool} {f:Nat->Option (Nat⊕(Int⊕Unit))} (step:∀i (hi:i<xs.length),f i=some (if p xs[i]then .inr (.inl (i:Int))else .inl (i+1))) (last:f xs.length=some (.inr (.inr ()))):
  (loop f 0).bind (fun e=>match e with|.inl e=>some e|.inr ()=>some (-1))=some (ztk xs p):=by
 cases xs with
 |nil=>rw[show loop f 0=_ from zb8 last];rfl
 |cons x r=>
  generalize I:x::r=xs at step last|-
  rw[zkn xs.length (fun i=>p (xs.getD i x)) (fun i=>.inl (i:Int)) (.inr ()) (fun i hi=>by
   rw[step i hi];simp[List.getD_eq_getElem?_getD,hi]) last,ybc _ _ _ rfl]
  unfold ztk;cases xs.findIdx? p<;>rfl
theorem z3y {α:Type} {xs:List α} {p:α->Bool}:0<=ztk xs p↔∃x∈xs,p x=true:=by
 unfold ztk
 cases h:xs.findIdx? p with
 |none=>
  have:=List.findIdx?_eq_none_iff.1 h
  constructor
  ·intro h;dsimp only at h;omega
  ·rintro⟨x,U,I⟩
   rw[this x U]at I;cases I
 |some i=>
  constructor
  ·intro _
   obtain⟨hi,I,_⟩:=Wch.1 h;exact⟨xs[i],Wap hi,I⟩
  ·intro _;dsimp only;omega
theorem yjk {α:Type} {s:List α} {p:α->Bool}:decide (0<=ztk s p)=s.any p:=by
 rw[Wa5,decide_eq_true_eq,z3y,Wbv]
def varN (p:xsj) (name:Str):Int:=ztk p.Vars fun v=>decide (v.Name=name)
def zgy (p:xsj) (name:Str):Int:=ztk p.Blocks fun v=>decide (v.Name=name)
def zof (p:xsj) (name:Str):Int:=ztk p.Sites fun v=>decide (v.Name=name)
theorem zoi (p:xsj) (name:Str):za3 p name=some (varN p name):=
 zms (fun i hi=>by by_cases h:p.Vars[i].Name=name<;>simp[zii,hi,h]) (by simp[zii])
theorem zly (p:xsj) (name:Str):zby p name=some (zgy p name):=
 zms (fun i hi=>by by_cases h:p.Blocks[i].Name=name<;>simp[zgl,hi,h]) (by simp[zgl])
theorem ztt (p:xsj) (name:Str):zdq p name=some (zof p name):=
 zms (fun i hi=>by by_cases h:p.Sites[i].Name=name<;>simp[zho,hi,h]) (by simp[zho])
theorem z7c {d:Nat}:∀{l:List xsk},(∀(i:Nat) (h:i<l.length),depE l[i]<=d)->znt l<=d
 |[],_=>by simp[znt]
 |e::es,h=>by
  have h1:=h 0 (by simp)
  have h2:=z7c (l:=es) (fun i hi=>h (i+1) (by simpa using hi))
  simp only[znt,List.getElem_cons_zero]at h1|-;omega
theorem z7b {d:Nat}:∀{l:List xsl},(∀(i:Nat) (h:i<l.length),depS l[i]<=d)->zgb l<=d
 |[],_=>by simp[zgb]
 |e::es,h=>by
  have h1:=h 0 (by simp)
  have h2:=z7b (l:=es) (fun i hi=>h (i+1) (by simpa using hi))
  simp only[zgb,List.getElem_cons_zero]at h1|-;omega
theorem z5y {n:Int} (h1:0<=n) (h2:n<=1000000):w64 (n-1)=n-1:=by rw[zqa];omega
theorem yl5:∀(d fuel:Nat),d<fuel->d<=1000->∀(e:xsk) (left:Int),∃r,zc8 fuel e (d:Int) left=some r/\(0<=r->depE e<=d)
 |d,0,h,_,_,_=>by omega
 |0,fuel+1,_,_,e,left=>⟨-1,by simp[zc8,zf9],by omega⟩
 |d+1,fuel+1,h,hd,e,left=>by
  have e1:w64 (((d+1:Nat):Int)-1)=(d:Int):=by rw[z5y (by omega) (by omega)];omega
  have e2:¬(((d+1:Nat):Int)<1):=by omega
  simp only[zc8,zf9,e2,if_false]
  generalize w64 (left-(w64 ((w64 (1+(e.Args.length:Int)))+(w64 ((e.Name.length:Int).tdiv 100)))))=l0
  by_cases hl:l0<0
  ·exact⟨-1,by simp[hl],by omega⟩
  simp only[hl,if_false]
  obtain⟨r,hr,U⟩:=zlz (f:=zd2 (zc8 fuel) e ((d+1:Nat):Int)) (fun s=>s.2<=e.Args.length/\(0<=s.1->∀(j:Nat) (h:j<e.Args.length),j<s.2->depE e.Args[j]<=d))
   (fun r=>0<=r->depE e<=d+1) (fun s=>e.Args.length-s.2) (fun⟨left,i⟩ ⟨hi,hI⟩=>by
     simp only at hi hI
     by_cases h1:i<e.Args.length
     ·by_cases h2:0<=left
      ·obtain⟨r,hr,U⟩:=yl5 d fuel (by omega) (by omega) e.Args[i] left
       refine .inl ⟨(r,i+1),?_,⟨h1,fun h0 j I ab=>?_⟩,by simp only;omega⟩
       ·simp only[zd2,Way,h1,h2,if_true,Wac h1,Waa,e1,hr]
       ·by_cases aa:j=i
        ·subst aa;exact U h0
        ·exact hI h2 j I (by omega)
      ·exact .inr ⟨left,by simp[zd2,h1,h2],fun h=>(h2 h).elim⟩
     ·refine .inr ⟨left,by simp[zd2,h1],fun h=>?_⟩
      rw[zdn]
      have:=z7c (fun j I=>hI h j I (by omega))
      omega) (l0,0) ⟨Waf _,fun _ j _ I=>by simp at I⟩
  exact⟨r,by rw[hr];rfl,U⟩
theorem z2d (e:xsk) (left:Int):∃r,zc9 e 60 left=some r/\(0<=r->depE e<=60):=yl5 60 1000000 (by omega) (by omega) e left
theorem yh9:∀(d fuel:Nat),d+1<fuel->d<=1000->∀(l:List xsl) (left:Int),∃r,zbo fuel l (d:Int) left=some r/\(0<=r->zgb l<=d+60)
 |d,0,h,_,_,_=>by omega
 |d,fuel+1,h,hd,[],left=>by
  simp only[zbo,zei,Wam]
  have e0:¬(0<((0:Nat):Int)):=by omega
  simp only[e0,if_false]
  generalize w64 (left-((0:Nat):Int))=l0
  by_cases hl:l0<0
  ·exact⟨-1,by simp[hl],by omega⟩
  ·refine⟨l0,?_,fun _=>by simp[zgb]⟩
   simp only[hl,if_false];rw[zb8 (r:=l0) (by simp[zki])];rfl
 |0,fuel+1,_,_,s::l,left=>⟨-1,by simp[zbo,zei],by omega⟩
 |d+1,fuel+1,h,hd,s::l,left=>by
  generalize aa:s::l=I
  have e1:w64 (((d+1:Nat):Int)-1)=(d:Int):=by rw[z5y (by omega) (by omega)];omega
  have e2:¬(((d+1:Nat):Int)<1):=by omega
  have e3:0<(I.length:Int):=by subst aa;simp
  simp only[zbo,zei,e2,e3,if_true,if_false]
  generalize w64 (left-(I.length:Int))=l0
  by_cases hl:l0<0
  ·exact⟨-1,by simp[hl],by omega⟩
  simp only[hl,if_false]
  obtain⟨r,hr,hR⟩:=zlz (f:=zb5 (zbo fuel) I ((d+1:Nat):Int)) (fun s=>s.2<=I.length/\(0<=s.1->∀(j:Nat) (h:j<I.length),j<s.2->depS I[j]<=d+1+60))
   (fun r=>0<=r->zgb I<=d+1+60) (fun s=>I.length-s.2) (fun⟨left,i⟩ ⟨hi,hI⟩=>by
     simp only at hi hI
     by_cases h1:i<I.length
     ·by_cases h2:0<=left
      ·generalize hs:I[i]=s at*
       have next:∀r:Int,(0<=r->depS s<=d+1+60)->(i+1<=I.length/\(0<=r->∀(j:Nat) (h:j<I.length),j<i+1->depS I[j]<=d+1+60)):=fun r hr=>⟨h1,fun h0 j U ar=>by
        by_cases ab:j=i
        ·subst ab;rw[hs];exact hr h0
        ·exact hI h2 j U (by omega)⟩
       obtain⟨r1,ad,ae⟩:=z2d s.Target (w64 (left-(w64 ((s.Name.length:Int).tdiv 100))))
       have base:zb5 (zbo fuel) I ((d+1:Nat):Int) (left,i)=zb5 (zbo fuel) I ((d+1:Nat):Int) (left,i):=rfl
       conv at base=>rhs;simp only[zb5,Way,h1,h2,if_true,Wac h1,Waa,hs,ad,e1]
       by_cases k1:0<=r1
       case neg=>exact .inl ⟨(r1,i+1),by rw[base];simp[k1],next r1 (fun h=>(k1 h).elim),by simp only;omega⟩
       obtain⟨r2,af,ai⟩:=z2d s.Value r1;simp only[k1,if_true,af,Waa]at base
       by_cases k2:0<=r2
       case neg=>exact .inl ⟨(r2,i+1),by rw[base];simp[k2],next r2 (fun h=>(k2 h).elim),by simp only;omega⟩
       obtain⟨r3,aj,ak⟩:=z2d (⟨0,0,0,[],s.Args⟩:xsk) r2;simp only[k2,if_true,aj,Waa]at base
       by_cases k3:0<=r3
       case neg=>exact .inl ⟨(r3,i+1),by rw[base];simp[k3],next r3 (fun h=>(k3 h).elim),by simp only;omega⟩
       obtain⟨r4,al,an⟩:=yh9 d fuel (by omega) (by omega) s.Body r3;simp only[k3,if_true,al,Waa]at base
       by_cases k4:0<=r4
       case neg=>exact .inl ⟨(r4,i+1),by rw[base];simp[k4],next r4 (fun h=>(k4 h).elim),by simp only;omega⟩
       obtain⟨r5,ao,aq⟩:=yh9 d fuel (by omega) (by omega) s.Else r4;simp only[k4,if_true,ao,Waa]at base
       refine .inl ⟨(r5,i+1),base,next r5 (fun h0=>?_),by simp only;omega⟩
       have a1:=ae k1;have a2:=ai k2;have a3:=ak k3;have a4:=an k4;have a5:=aq h0
       rw[zdn]at a3;rw[zup];simp only at a3;omega
      ·exact .inr ⟨left,by simp[zb5,h1,h2],fun h=>(h2 h).elim⟩
     ·exact .inr ⟨left,by simp[zb5,h1],fun h=>z7b (fun j U=>hI h j U (by omega))⟩) (l0,0) ⟨Waf _,fun _ j _ U=>by simp at U⟩
  exact⟨r,by rw[hr];rfl,hR⟩
theorem yea (l:List xsl) (left:Int):∃r,zl6 l 60 left=some r/\(0<=r->zgb l<=120):=yh9 60 1000000 (by omega) (by omega) l left
theorem yl4 (p:xsj):zef p=some 0\/(zef p=some 1/\∀t∈p.Tasks,zgb t.Body<=120):=by
 unfold zef;split
 ·exact .inl rfl
 split
 ·exact .inl rfl
 obtain⟨r,hr,I⟩:=zlz (f:=zcw p) (fun i=>i<=p.Tasks.length/\∀(j:Nat) (h:j<p.Tasks.length),j<i->zgb p.Tasks[j].Body<=120)
  (fun r=>r=.inl 0\/(r=.inr ()/\∀t∈p.Tasks,zgb t.Body<=120)) (fun i=>p.Tasks.length-i) (fun i ⟨hi,hI⟩=>by
    by_cases h1:i<p.Tasks.length
    ·by_cases h2:100<(p.Tasks[i].Budget.length:Int)
     ·exact .inr ⟨.inl 0,by simp[zcw,h1,h2],.inl rfl⟩
     ·obtain⟨r,hr,I⟩:=yea p.Tasks[i].Body 2000
      have aa:¬(100<p.Tasks[i].Budget.length):=by omega
      by_cases h3:r<0
      ·exact .inr ⟨.inl 0,by simp[zcw,h1,h2,aa,hr,h3],.inl rfl⟩
      ·refine .inl ⟨i+1,by simp[zcw,h1,h2,aa,hr,h3],⟨h1,fun j U ad=>?_⟩,by omega⟩
       by_cases ab:j=i
       ·subst ab;exact I (by omega)
       ·exact hI j U (by omega)
    ·refine .inr ⟨.inr (),by simp[zcw,h1],.inr ⟨rfl,fun t ht=>?_⟩⟩
     obtain⟨j,U,rfl⟩:=Wbd ht
     exact hI j U (by omega)) 0 ⟨Waf _,fun j _ U=>by simp at U⟩
 rw[hr]
 rcases I with rfl|⟨rfl,I⟩
 ·exact .inl rfl
 ·exact .inr ⟨rfl,I⟩
def atOk (p:xsj) (op:Int) (name:Str):Bool:=
 if op=2\/op=3 then decide (0<=varN p name)else if op=4 then decide (0<=zgy p name)else if op=21 then decide (0<=zof p name)else true
mutual
def zop (p:xsj):xsk->Bool
 |⟨op,_,_,name,args⟩=>atOk p op name&&zm3 p args
def zm3 (p:xsj):List xsk->Bool
 |[]=>true
 |e::es=>zop p e&&zm3 p es
end
def yhg (p:xsj) (kind:Int) (name:Str):Bool:=
 if kind=4 then decide (0<=varN p name)else if kind=5 then decide (0<=zgy p name)else true
mutual
def z7n (p:xsj):xsl->Bool
 |⟨kind,name,target,value,args,body,I⟩=>yhg p kind name&&zop p target&&zop p value&&zm3 p args&&zm7 p body&&zm7 p I
def zm7 (p:xsj):List xsl->Bool
 |[]=>true
 |e::es=>z7n p e&&zm7 p es
end
theorem yar (p:xsj) (e:xsk):zop p e=(atOk p e.Op e.Name&&zm3 p e.Args):=by cases e;rw[zop]
theorem ycs (p:xsj) (s:xsl):z7n p s=(yhg p s.Kind s.Name&&zop p s.Target&&zop p s.Value&&zm3 p s.Args&&zm7 p s.Body&&zm7 p s.Else):=by cases s;rw[z7n]
end Go.Lz

end
section
namespace Go.Lz
theorem zyh (p:xsj):∀l:List xsk,zm3 p l=l.all (zop p)
 |[]=>rfl
 |e::es=>by rw[zm3,Wbz,zyh p es]
theorem z0v (p:xsj):∀l:List xsl,zm7 p l=l.all (z7n p)
 |[]=>rfl
 |e::es=>by rw[zm7,Wbz,z0v p es]
theorem zwl (p:xsj) (l:List xsk) (n:Nat) (I:∀x∈l,(zat n).1 p x=some (zop p x)):(zat (n+1)).2 p l=some (zm3 p l):=by
 show zer (zat n).1 (zat n).2 p l=_
 unfold zer
 rw[zu5 (xs:=l) (p:=zop p) (a:=.inl false) (b:=.inr ()) (fun i h=>by
  simp only[zgf,Way,h,if_true,Wac h,Waa,I _ (Wap h)]
  split<;>rfl) (by simp[zgf]),zyh]
 cases l.all (zop p)<;>rfl
theorem zxl (p:xsj):∀(n:Nat) (e:xsk),2*depE e<=n->(zat n).1 p e=some (zop p e)
 |0,e,h=>by rw[zdn]at h;omega
 |1,e,h=>by rw[zdn]at h;omega
 |n+2,e,h=>by
  rw[zdn]at h
  have ha:=zwl p e.Args n fun x I=>zxl p n x (by have:=zfm I;omega)
  show zfc (zat (n+1)).1 (zat (n+1)).2 p e=_
  unfold zfc;simp only[ha,zoi,zly,ztt,Waa,yar,atOk]
  by_cases h2:e.Op=2
  ·by_cases hv:varN p e.Name<0
   ·simp[h2,hv,show¬0<=varN p e.Name by omega]
   ·simp[h2,hv,show 0<=varN p e.Name by omega]
  by_cases h3:e.Op=3
  ·by_cases hv:varN p e.Name<0
   ·simp[h3,hv,show¬0<=varN p e.Name by omega]
   ·simp[h3,hv,show 0<=varN p e.Name by omega]
  by_cases h4:e.Op=4
  ·by_cases hv:zgy p e.Name<0
   ·simp[h4,hv,show¬0<=zgy p e.Name by omega]
   ·simp[h4,hv,show 0<=zgy p e.Name by omega]
  by_cases h5:e.Op=21
  ·by_cases hv:zof p e.Name<0
   ·simp[h5,hv,show¬0<=zof p e.Name by omega]
   ·simp[h5,hv,show 0<=zof p e.Name by omega]
  simp[h2,h3,h4,h5]
theorem z9k {p:xsj} {e:xsk} (h:depE e<=1000):zcp p e=some (zop p e):=zxl p 1000000 e (by omega)
theorem yc1 {p:xsj} {l:List xsk} (h:znt l<=1000):zfx p l=some (zm3 p l):=
 zwl p l 999999 fun x I=>zxl p _ x (by have:=zfm I;omega)
theorem zvx (p:xsj):∀(n:Nat) (l:List xsl),zgb l+1<=n->zgb l<=1000->zes n p l=some (zm7 p l)
 |0,l,h,_=>by omega
 |n+1,l,h,hd=>by
  show zet (zes n) p l=_
  unfold zet;rw[zu5 (xs:=l) (p:=z7n p) (a:=.inl false) (b:=.inr ()) (fun i hi=>?_) (by simp[zgg]),z0v]
  ·cases l.all (z7n p)<;>rfl
  ·simp only[zgg,Way,hi,if_true,Wac hi,Waa]
   have dx:=znk (Wap hi)
   generalize l[i]=x at dx
   rw[zup]at dx;rw[zvx p n x.Body (by omega) (by omega),zvx p n x.Else (by omega) (by omega),z9k (e:=x.Target) (by omega),z9k (e:=x.Value) (by omega),yc1 (l:=x.Args) (by omega)];simp only[zoi,zly,Waa,ycs,yhg]
   generalize zop p x.Target=I
   generalize zop p x.Value=U
   generalize zm3 p x.Args=b3
   generalize zm7 p x.Body=b4
   generalize zm7 p x.Else=b5
   by_cases h4:x.Kind=4
   ·by_cases hv:varN p x.Name<0
    ·simp[h4,hv,show¬0<=varN p x.Name by omega]
    ·simp[h4,hv,show 0<=varN p x.Name by omega]
     cases I<;>cases U<;>cases b3<;>cases b4<;>cases b5<;>rfl
   by_cases h5:x.Kind=5
   ·by_cases hv:zgy p x.Name<0
    ·simp[h5,hv,show¬0<=zgy p x.Name by omega]
    ·simp[h5,hv,show 0<=zgy p x.Name by omega]
     cases I<;>cases U<;>cases b3<;>cases b4<;>cases b5<;>rfl
   simp only[h4,h5,if_false];cases I<;>cases U<;>cases b3<;>cases b4<;>cases b5<;>rfl
theorem yc2 {p:xsj} {l:List xsl} (h:zgb l<=1000):zky p l=some (zm7 p l):=zvx p 1000000 l (by omega) h
theorem z9m {α:Type} {xs:List α} {g:α->Str} {f:List Str×Nat->Option ((List Str×Nat)⊕List Str)} (h:xs.length<=1000) (step:∀l i (h:i<xs.length),f (l,i)=need ((l.length+1)*16<=140737488355328) (some (.inl (l++[g xs[i]],i+1)))) (last:∀l,f (l,xs.length)=some (.inr l)) (l0:List Str) (h0:l0.length<=10000):
  Tot (loop f (l0,0)) fun r=>r.length<=l0.length+1000:=by
 refine Tot.loop (fun x=>x.2<=xs.length/\x.1.length<=l0.length+x.2) (fun x=>xs.length-x.2) ⟨Waf _,by simp⟩ fun⟨l,i⟩ ⟨hi,hI⟩=>?_;simp only at hi hI
 by_cases I:i<xs.length
 ·rw[step l i I]
  exact Tot.need (by omega) (Tot.mk ⟨⟨I,by simp only[Wai,WbA];omega⟩,by simp only;omega⟩)
 ·have:i=xs.length:=by omega
  subst this;exact⟨_,last l,show l.length<=_ by omega⟩
theorem yi9 (p:xsj) (hv:p.Vars.length<=1000) (hb:p.Blocks.length<=1000) (hs:p.Sites.length<=1000) (hd:∀t∈p.Tasks,zgb t.Body<=1000):Tot (zfy p) fun r=>r=0->∀t∈p.Tasks,zm7 p t.Body=true:=by
 unfold zfy
 refine(z9m (g:=(·.Name)) hv (fun l i h=>by simp only[zgk,Way,h,if_true,Wac h,Waa]) (fun l=>by simp[zgk]) [] (by simp)).bind fun l1 h1=>?_
 simp only[Wam]at h1
 refine(z9m (g:=(·.Name)) hb (fun l i h=>by simp only[zgj,Way,h,if_true,Wac h,Waa]) (fun l=>by simp[zgj]) l1 (by omega)).bind fun l2 h2=>?_
 refine(z9m (g:=(·.Name)) hs (fun l i h=>by simp only[zgi,Way,h,if_true,Wac h,Waa]) (fun l=>by simp[zgi]) l2 (by omega)).bind fun I h3=>?_
 refine Tot.bind (Tot.loop (fun i=>i<=I.length) (R:=fun r=>match r with|.inl r=>r=5|.inr ()=>True) (fun i=>I.length-i) (Waf _) fun i hi=>?_) fun r hr=>?_
 ·unfold zjg
  refine Tot.ite (fun h=>?_) fun _=>Tot.mk trivial
  have h':i<I.length:=by omega
  refine Tot.bind (Tot.loop (fun k=>k<=i) (R:=fun r=>match r with|.inl r=>r=5|.inr ()=>True) (fun k=>i-k) (Waf _) fun k hk=>?_) fun r hr=>?_
  ·unfold zjf
   refine Tot.ite (fun h=>?_) fun _=>Tot.mk trivial
   have aa:k<i:=by omega
   exact(Tot.get h').bind fun x _=>(Tot.get (by omega)).bind fun y _=>Tot.ite (fun _=>Tot.mk rfl) fun _=>Tot.mk ⟨aa,by simp only;omega⟩
  ·cases r with
   |inl r=>exact Tot.mk hr
   |inr r=>exact Tot.mk ⟨h',by simp only;omega⟩
 cases r with
 |inl r=>
  simp only at hr;subst hr
  exact Tot.mk fun h=>by cases h
 |inr r=>
  simp only
  rw[zu5 (xs:=p.Tasks) (p:=fun t=>zm7 p t.Body) (a:=.inl 5) (b:=.inr ()) (fun i h=>by
   simp only[zgh,Way,h,if_true,Wac h,Waa,yc2 (hd _ (Wap h))]
   split<;>rfl) (by simp[zgh])]
  cases U:p.Tasks.all fun t=>zm7 p t.Body with
  |true=>exact Tot.mk fun _=>Wak.1 U
  |false=>exact Tot.mk fun h=>by cases h
end Go.Lz

end
section
namespace Go.Lz
theorem z4x {α:Type} (l:List α) (q:α->Bool):(!l.all fun x=> !q x)=l.any q:=by
 induction l with
 |nil=>rfl
 |cons x xs I=>rw[Wbz,List.any_cons,<-I];cases q x<;>simp
mutual
def z7q (name:Str):xsl->Bool
 |⟨kind,U,target,_,_,body,I⟩=>(decide (kind=1)&&decide (target.Name=name))||(decide (kind=4)&&decide (U=name))||zwe name body||zwe name I
def zwe (name:Str):List xsl->Bool
 |[]=>false
 |s::ss=>z7q name s||zwe name ss
end
theorem ycw (name:Str) (s:xsl):z7q name s=((decide (s.Kind=1)&&decide (s.Target.Name=name))||(decide (s.Kind=4)&&decide (s.Name=name))||zwe name s.Body||zwe name s.Else):=by cases s;rw[z7q]
theorem z2x (name:Str):∀l:List xsl,zwe name l=l.any (z7q name)
 |[]=>rfl
 |e::es=>by rw[zwe,List.any_cons,z2x name es]
theorem z1o (name:Str):∀(n:Nat) (l:List xsl),zgb l+1<=n->zfa n l name=some (zwe name l)
 |0,l,h=>by omega
 |n+1,l,h=>by
  show zfb (zfa n) l name=_
  unfold zfb;rw[zu5 (xs:=l) (p:=fun x=> !z7q name x) (a:=.inl true) (b:=.inr ()) (fun i hi=>?_) (by simp[zhm]),z2x,<-z4x]
  ·cases l.all fun x=> !z7q name x<;>rfl
  ·simp only[zhm,Way,hi,if_true,Wac hi,Waa]
   have dx:=znk (Wap hi)
   generalize l[i]=x at dx
   rw[zup]at dx;rw[z1o name n x.Body (by omega),z1o name n x.Else (by omega),ycw];simp only[Waa]
   by_cases I:x.Kind=1
   ·by_cases t:x.Target.Name=name
    ·simp[I,t]
    ·simp[I,t];cases zwe name x.Body<;>cases zwe name x.Else<;>rfl
   by_cases U:x.Kind=4
   ·by_cases t:x.Name=name
    ·simp[U,t]
    ·simp[U,t];cases zwe name x.Body<;>cases zwe name x.Else<;>rfl
   simp[I,U];cases zwe name x.Body<;>cases zwe name x.Else<;>rfl
structure zoz (p:xsj):Prop where
 P:zkk p
 T:∀t∈p.Tasks,z8q p t
 d:∀t∈p.Tasks,zgb t.Body<=1000
end Go.Lz

end
section
namespace Go.Lz
theorem z9s (s:Str):Tot (zbj s) fun l=>(∀k∈l,0<=k)/\l.length<=5:=by
 unfold zbj
 repeat' (first|exact Tot.mk (by decide)|refine Tot.ite (fun _=>?_) (fun _=>?_))
theorem yhz (s:Str):Tot (zdu s) fun l=>(∀k∈l,0<=k)/\l.length<=5:=by
 unfold zdu
 repeat' (first|exact Tot.mk (by decide)|refine Tot.ite (fun _=>?_) (fun _=>?_))
theorem z6e (op k:Int):Tot (zah op k) fun r=>0<=r:=by
 unfold zah;refine(z4d k).bind fun b hb=>Tot.ite (fun _=>Tot.mk (by omega)) fun h0=>?_
 have:=hb h0
 repeat' (first|exact Tot.mk (by omega)|refine Tot.ite (fun _=>?_) (fun _=>?_))
theorem ybd {α:Type} {xs:List α} {p:α->Bool} (h:0<=ztk xs p):Tot (idx xs (ztk xs p)) fun x=>x∈xs/\p x=true:=by
 unfold ztk at h|-
 cases hf:xs.findIdx? p with
 |none=>rw[hf]at h;simp only at h;omega
 |some i=>
  obtain⟨hi,I,_⟩:=Wch.1 hf;exact⟨xs[i],by simp only;rw[znq];exact Wac hi,Wap hi,I⟩
theorem zx6 {p:xsj} {name:Str} (h:¬varN p name<0):Tot (idx p.Vars (varN p name)) fun x=>x∈p.Vars:=(ybd (by unfold varN at h;omega)).imp fun _ h=>h.1
theorem zy5 {p:xsj} {name:Str} (h:¬zgy p name<0):Tot (idx p.Blocks (zgy p name)) fun x=>x∈p.Blocks:=(ybd (by unfold zgy at h;omega)).imp fun _ h=>h.1
theorem yfb {p:xsj} (P:zkk p):∀(n:Nat) (e:xsk),fmE e->depE e<=n->Tot (zao n p e) fun k=>0<=k
 |0,e,_,h=>by rw[zdn]at h;omega
 |n+1,e,ok,h=>by
  have F:=zww ok
  rw[zyj]at ok;rw[zdn]at h
  have ops:=F.ops
  have sub:∀x∈e.Args,Tot (zao n p x) fun k=>0<=k:=fun x I=>yfb P n x (zk6 ok.2 x I) (by have:=zfm I;omega)
  show Tot (zas (zao n) p e) _
  unfold zas;simp only[zoi,zly,ztt,Waa];refine Tot.ite (fun h1=>Tot.mk (by omega)) fun h1=>Tot.ite (fun h2=>?_) fun h2=>Tot.ite (fun h3=>?_) fun h3=>Tot.ite (fun h4=>?_) fun h4=>Tot.ite (fun aa=>?_) fun aa=>?_
  ·refine Tot.ite (fun _=>Tot.mk (by omega)) fun hv=>(zx6 hv).bind fun v hv=>?_
   have U:=(P.vars v hv).kind
   exact Tot.ite (fun _=>Tot.ite (fun _=>by omega) fun _=>Tot.mk (by omega)) fun _=>Tot.mk (by omega)
  ·refine Tot.ite (fun _=>Tot.mk (by omega)) fun hv=>(zx6 hv).bind fun v hv=>?_
   have U:=(P.vars v hv).kind
   exact Tot.ite (fun _=>(Tot.get (by omega)).bind fun x I=>(sub x I.1).bind fun k _=>Tot.ite (fun _=>Tot.mk (by omega)) fun _=>Tot.mk (by omega)) fun _=>Tot.mk (by omega)
  ·exact Tot.ite (fun _=>Tot.mk (by omega)) fun hv=>(zy5 hv).bind fun v hv=>(z9s _).bind fun l hl=>Tot.ite (fun _=>Tot.mk (by omega)) fun a=>Tot.ite (fun _=>Tot.mk (by omega)) fun b=>(Tot.idx (by omega) (by omega)).bind fun x I=>Tot.mk (hl.1 x I)
  ·exact Tot.ite (fun _=>Tot.mk (by omega)) fun _=>(Tot.get (by omega)).bind fun x I=>(sub x I.1).bind fun k U=>Tot.mk U
  ·exact(Tot.get (by omega)).bind fun x I=>(sub x I.1).bind fun k U=>Tot.ite (fun h=>(Tot.get (by omega)).bind fun y hy=>(sub y hy.1).bind fun m _=>Tot.ite (fun _=>(z6e _ _).bind fun r hr=>Tot.mk hr) fun _=>Tot.mk (by omega)) fun _=>(z6e _ _).bind fun r hr=>Tot.mk hr
noncomputable def zga (p:xsj) (e:xsk):Int:=(zam p e).getD 0
theorem yht {p:xsj} (P:zkk p) {e:xsk} (ok:fmE e) (h:depE e<=1000):zam p e=some (zga p e)/\0<=zga p e:=by
 obtain⟨k,h2,h0⟩:=yfb P 1000000 e ok (by omega)
 have I:zam p e=some k:=h2
 have U:zga p e=k:=by unfold zga;rw[I];rfl
 exact⟨by rw[U];exact I,by rw[U];exact h0⟩
theorem zum {p:xsj} (P:zkk p) {e:xsk} (g:GoodE e):zam p e=some (zga p e)/\0<=zga p e:=yht P g.ok (by have:=g.dep;omega)
theorem z49 {p:xsj} (P:zkk p) {e:xsk} (g:GoodE e):Tot (zam p e) fun k=>0<=k:=⟨_,(zum P g).1,(zum P g).2⟩
theorem ykm {name:Str} {l:List xsl} (h:zgb l<=1000):Tot (zg5 l name) fun _=>True:=⟨_,z1o name 1000000 l (by omega),trivial⟩
theorem ylh {p:xsj} (P:zkk p) {s:xsl} (F:z4g s) (k4:s.Kind=4) (hd:zgb s.Body<=1000):Tot (zg6 p s) fun _=>True:=by
 have hl:s.Args.length=2:=by have:=F.kinds;omega
 unfold zg6;simp only[zoi,Waa]
 have key:∀k:Int,Tot ((s.Args[0]?).bind fun I=>(zam p I).bind fun U=>if U=k then((s.Args[1]?).bind fun aa=>(zam p aa).bind fun ab=>if ab=k then((zg5 s.Body s.Name).bind fun ad=>some (!ad))else(some false))else(some false)) fun _=>True:=fun k=>
  (Tot.get (by omega)).bind fun x hx=>(z49 P (F.args x hx.1)).bind fun _ _=>Tot.ite (fun _=>(Tot.get (by omega)).bind fun y hy=>(z49 P (F.args y hy.1)).bind fun _ _=>Tot.ite (fun _=>(ykm hd).bind fun _ _=>Tot.mk trivial) fun _=>Tot.mk trivial) fun _=>Tot.mk trivial
 exact Tot.ite (fun _=>Tot.mk trivial) fun hv=>(zx6 hv).bind fun v _=>Tot.ite (fun _=>Tot.ite (fun _=>Tot.ite (fun _=>key _) fun _=>Tot.ite (fun _=>key _) fun _=>Tot.mk trivial) fun _=>Tot.mk trivial) fun _=>Tot.mk trivial
theorem yno {p:xsj} (P:zkk p) {s:xsl} (F:z4g s):Tot (zg7 p s) fun _=>True:=by
 unfold zg7;simp only[zly,Waa];refine Tot.ite (fun _=>Tot.mk trivial) fun hb=>(zy5 hb).bind fun b _=>(yhz _).bind fun l _=>Tot.ite (fun e=>?_) fun _=>Tot.mk trivial
 refine Tot.bind (Tot.loop (fun i=>i<=l.length) (R:=fun _=>True) (fun i=>l.length-i) (Waf _) fun i hi=>?_) fun r _=>by cases r<;>exact Tot.mk trivial
 unfold zjz;exact Tot.ite (fun h=>(Tot.get (by omega)).bind fun x I=>(z49 P (F.args x I.1)).bind fun _ _=>(Tot.get (by omega)).bind fun _ _=>Tot.ite (fun _=>Tot.mk ⟨by omega,by simp only;omega⟩) fun _=>Tot.mk trivial) fun _=>Tot.mk trivial
theorem yla {p:xsj} (P:zkk p) {s:xsl} (F:z4g s) (hd:zgb s.Body<=1000):Tot (zfp p s) fun _=>True:=by
 have K:=F.kinds
 unfold zfp;simp only[zoi,Waa];refine Tot.ite (fun k=>?_) fun k1=>?_
 ·have U:GoodE s.Target/\GoodE s.Value:=by
   rcases K with h|h|h|h
   ·exact⟨h.2.2.2.2.1,h.2.2.2.2.2.2⟩
   all_goals omega
  exact(z49 P U.1).bind fun _ _=>Tot.ite (fun h=>(zx6 (by omega)).bind fun _ _=>Tot.ite (fun _=>Tot.mk trivial) fun _=>Tot.ite (fun _=>Tot.mk trivial) fun _=>(z49 P U.2).bind fun _ _=>Tot.mk trivial) fun _=>Tot.mk trivial
 have I:(s.Kind=2\/s.Kind=3)->GoodE s.Value:=fun k=>by
  rcases K with h|h|h|h
  ·omega
  ·exact h.2.2.2
  all_goals omega
 exact Tot.ite (fun k=>(z49 P (I (.inl k))).bind fun _ _=>Tot.mk trivial) fun _=>Tot.ite (fun k=>(z49 P (I (.inr k))).bind fun _ _=>Tot.mk trivial) fun _=>Tot.ite (fun k=>(ylh P F k hd).bind fun _ _=>Tot.mk trivial) fun _=>(yno P F).bind fun _ _=>Tot.mk trivial
theorem z1l {p:xsj} (P:zkk p):∀(n:Nat) (l:List xsl),fmSs l->zgb l<=1000->zgb l+1<=n->Tot (zdb n p l) fun _=>True
 |0,l,_,_,h=>by omega
 |n+1,l,ok,hd,h=>by
  show Tot (zce (zdb n) p l) _
  unfold zce
  refine Tot.bind (Tot.loop (fun i=>i<=l.length) (R:=fun _=>True) (fun i=>l.length-i) (Waf _) fun i hi=>?_) fun r _=>by cases r<;>exact Tot.mk trivial
  unfold zge;refine Tot.ite (fun h'=>(Tot.get (by omega)).bind fun x U=>?_) fun _=>Tot.mk trivial
  have I:=zwv ok x U.1
  have dx:=znk U.1
  have F:=zy3 I
  rw[z3w]at I;rw[zup]at dx;refine(yla P F (by omega)).bind fun _ _=>Tot.ite (fun _=>?_) fun _=>Tot.mk trivial;refine(z1l P n x.Body I.2.1 (by omega) (by omega)).bind fun _ _=>Tot.ite (fun _=>?_) fun _=>Tot.mk trivial;exact(z1l P n x.Else I.2.2 (by omega) (by omega)).bind fun _ _=>Tot.ite (fun _=>Tot.mk ⟨by omega,by simp only;omega⟩) fun _=>Tot.mk trivial
theorem yi8 {p:xsj} (G:zoz p):Tot (zbd p) fun _=>True:=by
 have P:=G.P
 unfold zbd;refine Tot.bind (Tot.loop (fun i=>i<=p.Vars.length) (R:=fun _=>True) (fun i=>p.Vars.length-i) (Waf _) fun i hi=>?_) fun r _=>?_
 ·unfold zd6
  refine Tot.ite (fun U=>(Tot.get (by omega)).bind fun x I=>(z8w _).bind fun _ _=>Tot.ite (fun _=>Tot.ite (fun _=>(zxh _ _).bind fun _ _=>Tot.ite (fun _=>Tot.mk ⟨by omega,by simp only;omega⟩) fun _=>Tot.mk trivial) fun _=>Tot.ite (fun _=>(zxh _ _).bind fun _ _=>Tot.ite (fun _=>Tot.mk ⟨by omega,by simp only;omega⟩) fun _=>Tot.mk trivial) fun _=>Tot.mk trivial) fun _=>Tot.mk trivial) fun _=>Tot.mk trivial
 cases r with
 |inl r=>exact Tot.mk trivial
 |inr r=>
  refine Tot.bind (Tot.loop (fun i=>i<=p.Blocks.length) (R:=fun _=>True) (fun i=>p.Blocks.length-i) (Waf _) fun i hi=>?_) fun r _=>?_
  ·unfold zd5
   exact Tot.ite (fun U=>(Tot.get (by omega)).bind fun x I=>(yhz _).bind fun _ _=>Tot.ite (fun _=>Tot.mk trivial) fun _=>Tot.mk ⟨by omega,by simp only;omega⟩) fun _=>Tot.mk trivial
  cases r with
  |inl r=>exact Tot.mk trivial
  |inr r=>
   refine Tot.bind (Tot.loop (fun i=>i<=p.Tasks.length) (R:=fun _=>True) (fun i=>p.Tasks.length-i) (Waf _) fun i hi=>?_) fun r _=>by cases r<;>exact Tot.mk trivial
   unfold zd4;exact Tot.ite (fun U=>(Tot.get (by omega)).bind fun x I=>(z1l P 1000000 x.Body (G.T x I.1).ok (G.d x I.1) (by have:=G.d x I.1;omega)).bind fun _ _=>Tot.ite (fun _=>Tot.mk ⟨by omega,by simp only;omega⟩) fun _=>Tot.mk trivial) fun _=>Tot.mk trivial
end Go.Lz

end
section
namespace Go.Lz
theorem yq4 {s:List xsq} {f:xsq->Option Bool} {p:xsq->Bool} (h:∀x∈s,f x=some (p x)):zcn s f=some (ztk s p):=
 zms (fun i hi=>by simp[zb6,hi,h _ (Wap hi)];cases p s[i]<;>rfl) (by simp[zb6])
theorem yhw {s:List xsw} {f:xsw->Option Bool} {p:xsw->Bool} (h:∀x∈s,f x=some (p x)):zb2 s f=some (ztk s p):=
 zms (fun i hi=>by simp[zbs,hi,h _ (Wap hi)];cases p s[i]<;>rfl) (by simp[zbs])
theorem ylu {s:List xsy} {f:xsy->Option Bool} {p:xsy->Bool} (h:∀x∈s,f x=some (p x)):zcb s f=some (ztk s p):=
 zms (fun i hi=>by simp[zbw,hi,h _ (Wap hi)];cases p s[i]<;>rfl) (by simp[zbw])
theorem zu2 (p:xsj) (name:Str):zk2 p name=some (varN p name):=by
 unfold zk2 zj9;rw[yq4 (f:=zip zrc name) (p:=fun v=>decide (v.Name=name)) (fun x _=>rfl)];rfl
theorem zxo (p:xsj) (name:Str):zk9 p name=some (zgy p name):=by
 unfold zk9 ziq;rw[yhw (f:=zhl zn3 name) (p:=fun v=>decide (v.Name=name)) (fun x _=>rfl)];rfl
theorem zzs (p:xsj) (name:Str):zmq p name=some (zof p name):=by
 unfold zmq zi2;rw[ylu (f:=zic zpa name) (p:=fun v=>decide (v.Name=name)) (fun x _=>rfl)];rfl
end Go.Lz

end
section
namespace Go.Lz
theorem yhh (s:Str):zm6 s=zbj s:=rfl
theorem yji (k:Int):ze0 k=zbb k:=rfl
theorem z6d (op k:Int):∃r,0<=r/\(k=0->r=0)/\zjp op k=some r/\zah op k=some r:=by
 unfold zjp zah;rw[yji];obtain⟨b,hb,I⟩:=z4d k;rw[hb,Waa,Waa]
 by_cases h0:b=0
 ·exact⟨0,by omega,fun _=>rfl,by rw[if_pos h0],by rw[if_pos h0]⟩
 rw[if_neg h0,if_neg h0]
 have I:=I h0
 have num:∃r,0<=r/\(k=0->r=0)/\(if k=1 then some (0:Int)else some k)=some r:=by
  by_cases h:k=1
  ·exact⟨0,by omega,fun _=>rfl,by rw[if_pos h]⟩
  ·exact⟨k,by omega,fun h=>h,by rw[if_neg h]⟩
 have bit:∃r,0<=r/\(k=0->r=0)/\(if k=4 then some (0:Int)else some k)=some r:=by
  by_cases h:k=4
  ·exact⟨0,by omega,fun _=>rfl,by rw[if_pos h]⟩
  ·exact⟨k,by omega,fun h=>h,by rw[if_neg h]⟩
 have ord:∃r,0<=r/\(k=0->r=0)/\(if k=1 then some (0:Int)else some 1)=some r:=by
  by_cases h:k=1
  ·exact⟨0,by omega,fun _=>rfl,by rw[if_pos h]⟩
  ·exact⟨1,by omega,fun h=>by omega,by rw[if_neg h]⟩
 obtain⟨rn,n0,n1,hn⟩:=num;obtain⟨rb,b0,b1,U⟩:=bit;obtain⟨ro,o0,o1,ho⟩:=ord;rw[hn,U,ho]
 by_cases c1:op=5\/(7<=op/\op<=11)
 ·refine⟨rn,n0,n1,?_,?_⟩
  ·rcases c1 with h|⟨h,h'⟩
   ·simp[h]
   ·have:op=7\/op=8\/op=9\/op=10\/op=11:=by omega
    rcases this with h|h|h|h|h<;>simp[h]
  ·rcases c1 with h|⟨h,h'⟩
   ·simp[h]
   ·by_cases h5:op=5
    ·omega
    ·rw[if_neg h5,if_pos h,if_pos h']
 by_cases c2:op=6\/(18<=op/\op<=20)
 ·refine⟨rb,b0,b1,?_,?_⟩
  ·have:op=6\/op=18\/op=19\/op=20:=by omega
   rcases this with h|h|h|h<;>simp[h]
  ·have:op=6\/op=18\/op=19\/op=20:=by omega
   rcases this with h|h|h|h<;>simp[h]
 by_cases c3:op=12\/op=13
 ·refine⟨1,by omega,fun h=>by omega,?_,?_⟩<;>rcases c3 with h|h<;>simp[h]
 by_cases c4:14<=op/\op<=17
 ·refine⟨ro,o0,o1,?_,?_⟩
  ·have:op=14\/op=15\/op=16\/op=17:=by omega
   rcases this with h|h|h|h<;>simp[h]
  ·have:op=14\/op=15\/op=16\/op=17:=by omega
   rcases this with h|h|h|h<;>simp[h]
 refine⟨0,by omega,fun _=>rfl,?_,?_⟩
 ·rw[if_neg (by omega),if_neg (by omega),if_neg (by omega),if_neg (by omega),if_neg (by omega),if_neg (by omega),if_neg (by omega),if_neg (by omega),if_neg (by omega),if_neg (by omega),if_neg (by omega),if_neg (by omega),if_neg (by omega),if_neg (by omega),if_neg (by omega),if_neg (by omega)]
 ·repeat' (first|rfl|rw[if_neg (by omega)]|(split<;>first|omega|skip))
def Two {α:Type} (x y:Option α) (Q:α->Prop):Prop:=∃r,x=some r/\y=some r/\Q r
section
variable {α β:Type} {x y:Option α} {Q:α->Prop} {f g:α->Option β} {R:β->Prop}
theorem Two.bind (h:Two x y Q) (k:∀a,Q a->Two (f a) (g a) R):Two (x.bind f) (y.bind g) R:=by
 obtain⟨a,rfl,rfl,hq⟩:=h;exact k a hq
theorem Two.ite {c:Prop} [Decidable c] {I U:Option α} (a:c->Two x y Q) (b:¬c->Two I U Q):Two (if c then x else I) (if c then y else U) Q:=by
 by_cases h:c
 ·rw[if_pos h,if_pos h];exact a h
 ·rw[if_neg h,if_neg h];exact b h
theorem Two.mk {a:α} (h:Q a):Two (some a) (some a) Q:=⟨a,rfl,rfl,h⟩
theorem Two.same (h:Tot x Q):Two x x Q:=by
 obtain⟨a,rfl,hq⟩:=h;exact⟨a,rfl,rfl,hq⟩
theorem Two.imp {I:α->Prop} (h:Two x y Q) (k:∀a,Q a->I a):Two x y I:=by
 obtain⟨a,U,e2,hq⟩:=h;exact⟨a,U,e2,k a hq⟩
end
theorem z0x (op k:Int):Two (zjp op k) (zah op k) fun r=>0<=r:=by
 obtain⟨r,h0,_,h1,h2⟩:=z6d op k;exact⟨r,h1,h2,h0⟩
theorem yfn (l:List Int) (f:Int->Option Bool) (q:Int->Bool) (h:∀x∈l,f x=some (q x)):zco l f=some (l.any q):=by
 have I:zfn l f=some (ztk l q):=zms (fun i hi=>by simp[zd3,hi,h _ (Wap hi)];cases q l[i]<;>rfl) (by simp[zd3])
 unfold zco;rw[I,Waa,yjk]
theorem yau {R:xsj->xsk->Option Int} {p:xsj} {e:xsk} (h:e.Args.length=0):loop (zdj R p e) (List.replicate e.Args.length 0,0)=some []:=by
 rw[zb8 (r:=[]) (by simp[zdj,h])]
theorem yat {R:xsj->xsk->Option Int} {p:xsj} {e a:xsk} {k:Int} (h:e.Args=[a]) (I:R p a=some k):loop (zdj R p e) (List.replicate e.Args.length 0,0)=some [k]:=by
 rw[zid (s':=([k],1)) (by simp[zdj,h,I]),zb8 (r:=[k]) (by simp[zdj,h])]
theorem yas {R:xsj->xsk->Option Int} {p:xsj} {e a b:xsk} {k m:Int} (h:e.Args=[a,b]) (I:R p a=some k) (hm:R p b=some m):loop (zdj R p e) (List.replicate e.Args.length 0,0)=some [k,m]:=by
 rw[zid (s':=([k,0],1)) (by simp[zdj,h,I]),zid (s':=([k,m],2)) (by simp[zdj,h,hm]),zb8 (r:=[k,m]) (by simp[zdj,h])]
theorem ydb {l:List xsk} (h:l.length=1):∃a,l=[a]:=by
 match l,h with
 |[a],_=>exact⟨a,rfl⟩
theorem ydv {p:xsj} (P:zkk p):∀(n:Nat) (e:xsk),fmE e->depE e<=n->Two (zlt n p e) (zao n p e) fun k=>0<=k
 |0,e,_,h=>by rw[zdn]at h;omega
 |n+1,e,ok,h=>by
  have F:=zww ok
  rw[zyj]at ok;rw[zdn]at h
  have ops:=F.ops
  show Two (zlu (zlt n) p e) (zas (zao n) p e) _
  unfold zlu zas
  have hn:(0:Int)<=(e.Args.length:Int)/\8*(e.Args.length:Int)<=140737488355328:=by omega
  rw[zc3 hn]
  by_cases h0:e.Args.length=0
  ·rw[yau h0,Waa]
   refine Two.ite (fun _=>Two.mk (by omega)) fun h1=>Two.ite (fun h2=>?_) fun h2=>?_
   ·simp only[zu2,zoi,Waa]
    refine Two.ite (fun _=>Two.mk (by omega)) fun hv=>(Two.same (zx6 hv)).bind fun v hv=>?_
    have hk:=(P.vars v hv).kind
    exact Two.ite (fun _=>Two.ite (fun _=>by omega) fun _=>Two.mk (by omega)) fun _=>Two.mk (by omega)
   rw[if_neg (by omega),if_neg (show¬e.Op=3 by omega)]
   refine Two.ite (fun h4=>?_) fun h4=>by omega
   simp only[zxo,zly,Waa];refine Two.ite (fun _=>Two.mk (by omega)) fun hv=>(Two.same (zy5 hv)).bind fun v hv=>?_;rw[yhh];refine(Two.same (z9s v.Kind)).bind fun l hl=>?_
   by_cases a:0<=e.N
   ·rw[if_pos a,if_neg (show¬e.N<0 by omega)]
    by_cases b:e.N<(l.length:Int)
    ·rw[if_pos b,if_neg (by omega)]
     exact(Two.same (Tot.idx a b)).bind fun x hx=>Two.mk (hl.1 x hx)
    ·rw[if_neg b,if_pos (by omega)];exact Two.mk (by omega)
   ·rw[if_neg a,if_pos (by omega)];exact Two.mk (by omega)
  by_cases h1:e.Args.length=1
  ·obtain⟨x,hx⟩:=ydb h1
   have aa:fmE x:=zk6 ok.2 x (by rw[hx];simp)
   have dx:depE x<=n:=by rw[hx]at h;simp only[znt]at h;omega
   obtain⟨k,k1,k2,k0⟩:=ydv P n x aa dx;rw[yat hx k1,Waa];rw[hx];simp only[Wau,Waa,k2,Waj,Wam];rw[if_neg (show¬e.Op=1 by omega),if_neg (show¬e.Op=1 by omega),if_neg (show¬e.Op=2 by omega),if_neg (show¬e.Op=2 by omega)];refine Two.ite (fun h3=>?_) fun h3=>?_
   ·simp only[zu2,zoi,Waa]
    refine Two.ite (fun _=>Two.mk (by omega)) fun hv=>(Two.same (zx6 hv)).bind fun v hv=>?_
    have hk:=(P.vars v hv).kind
    refine Two.ite (fun _=>?_) fun _=>Two.mk (by omega);rw[if_pos (by omega)];exact Two.ite (fun _=>Two.mk (by omega)) fun _=>Two.mk (by omega)
   rw[if_neg (show¬e.Op=4 by omega),if_neg (show¬e.Op=4 by omega)];refine Two.ite (fun h4=>?_) fun h4=>?_
   ·simp only[zzs,ztt,Waa]
    by_cases hs:zof p e.Name<0
    ·rw[if_neg (by omega),if_pos hs];exact Two.mk (by omega)
    ·rw[if_pos (by omega),if_neg hs,if_pos (by omega)];exact Two.mk k0
   rw[if_pos (by omega),if_neg (by omega),yfn [k] _ (fun x=> !decide (x=k)) (fun x _=>by simp[zlv]),Waa];rw[if_neg (by simp)];exact(z0x e.Op k).bind fun r hr=>Two.mk hr
  ·have h2:e.Args.length=2:=by omega
   obtain⟨x,y,I⟩:=z1g h2
   have aa:fmE x:=zk6 ok.2 x (by rw[I];simp)
   have ab:fmE y:=zk6 ok.2 y (by rw[I];simp)
   rw[I]at h;simp only[znt]at h;obtain⟨k,k1,k2,k0⟩:=ydv P n x aa (by omega);obtain⟨m,m1,m2,m0⟩:=ydv P n y ab (by omega);rw[yas I k1 m1,Waa];rw[I];simp only[Wau,WaN,Waa,k2,m2,Waj,Wam];rw[if_neg (show¬e.Op=1 by omega),if_neg (show¬e.Op=1 by omega),if_neg (show¬e.Op=2 by omega),if_neg (show¬e.Op=2 by omega),if_neg (show¬e.Op=3 by omega),if_neg (show¬e.Op=3 by omega),if_neg (show¬e.Op=4 by omega),if_neg (show¬e.Op=4 by omega),if_neg (show¬e.Op=21 by omega),if_neg (show¬e.Op=21 by omega)]
   rw[if_pos (by omega),if_pos (by omega),yfn [k,m] _ (fun x=> !decide (x=k)) (fun x _=>by simp[zlv]),Waa]
   by_cases U:m=k
   ·rw[if_neg (by simp[U]),if_pos U]
    exact(z0x e.Op k).bind fun r hr=>Two.mk hr
   ·rw[if_pos (by simp[U]),if_neg U];exact Two.mk (by omega)
theorem z0s {p:xsj} (P:zkk p) {e:xsk} (ok:fmE e) (h:depE e<=1000):zkb p e=some (zga p e, !decide (zga p e=0)):=by
 obtain⟨k,h1,h2,h0⟩:=ydv P 1000000 e ok (by omega)
 have I:zvu p e=some k:=h1
 have U:zam p e=some k:=h2
 have e1:zga p e=k:=by unfold zga;rw[U];rfl
 unfold zkb;rw[I,Waa,e1]
end Go.Lz

end
section
namespace Go.Lz
def tOk (t:xsz):Prop:=(1<=t.Kind/\t.Kind<=4)/\0<=t.Len/\t.Len<=32/\-32768<=t.Low/\t.Low<=32767/\(t.Len=0->t.Low=0)
instance (t:xsz):Decidable (tOk t):=by unfold tOk;exact inferInstance
theorem yd1 (k:Int):ze0 k=some (if k=1 then 1 else if k=2 then 16 else if k=3 then 32 else if k=4 then 32 else 0):=by
 unfold ze0;repeat' split
 all_goals rfl
theorem yg2 (k:Int):zbb k=some (if k=1 then 1 else if k=2 then 16 else if k=3 then 32 else if k=4 then 32 else 0):=by
 unfold zbb;repeat' split
 all_goals rfl
theorem z07 (t:xsz):zmy t=some (if tOk t then 0 else 6):=by
 have hb:(if t.Kind=1 then(1:Int)else if t.Kind=2 then 16 else if t.Kind=3 then 32 else if t.Kind=4 then 32 else 0)=0↔¬(1<=t.Kind/\t.Kind<=4):=by
  repeat' split
  all_goals omega
 unfold zmy;simp only[yd1,Waa]
 generalize (if t.Kind=1 then(1:Int)else if t.Kind=2 then 16 else if t.Kind=3 then 32 else if t.Kind=4 then 32 else 0)=b at hb|-
 by_cases h:tOk t
 ·unfold tOk at h
  rw[if_pos (show tOk t from h)]
  repeat' split
  all_goals first|rfl|(exfalso;omega)
 ·rw[if_neg h]
  unfold tOk at h
  repeat' split
  all_goals first|rfl|(exfalso;omega)
theorem z7y (t:xsz):zbz t=some (if tOk t then 0 else 6):=by
 have hb:(if t.Kind=1 then(1:Int)else if t.Kind=2 then 16 else if t.Kind=3 then 32 else if t.Kind=4 then 32 else 0)=0↔¬(1<=t.Kind/\t.Kind<=4):=by
  repeat' split
  all_goals omega
 unfold zbz;simp only[yg2,Waa]
 generalize (if t.Kind=1 then(1:Int)else if t.Kind=2 then 16 else if t.Kind=3 then 32 else if t.Kind=4 then 32 else 0)=b at hb|-
 by_cases h:tOk t
 ·unfold tOk at h
  rw[if_pos (show tOk t from h)]
  repeat' split
  all_goals first|rfl|(exfalso;omega)
 ·rw[if_neg h]
  unfold tOk at h
  repeat' split
  all_goals first|rfl|(exfalso;omega)
def zxi (t:xsz):Nat:=if tOk t then max t.Len.toNat 1 else 0
theorem ybw (t:xsz):zq3 t=some (zxi t:Int):=by
 unfold zq3 zxi;rw[z07,Waa]
 by_cases h:tOk t
 ·have:=h.2.1
  simp only[h,if_true];congr 1;simp only[maxI];repeat' split
  all_goals omega
 ·simp[h]
theorem yg0 (t:xsz):zhh t=some (zxi t:Int):=by
 unfold zhh zxi;rw[z7y,Waa]
 by_cases h:tOk t
 ·have:=h.2.1
  simp only[h,if_true];congr 1;simp only[maxI];repeat' split
  all_goals omega
 ·simp[h]
theorem ycv (t:xsz):zxi t<=32:=by
 unfold zxi;split
 ·rename_i h;have:=h.2.2.1;have:=h.2.1;omega
 ·omega
end Go.Lz

end
section
namespace Go.Lz
def ztu (t:xsz) (n:Nat) (i:Int):Option Nat:=
 if tOk t/\n=zxi t then(if t.Len=0 then some 0 else if t.Low<=i/\i<t.Low+t.Len then some (i-t.Low).toNat else none)else none
theorem yc7 {t:xsz} {n:Nat} {i:Int} {k:Nat} (h:ztu t n i=some k):k<n:=by
 unfold ztu at h;split at h
 ·rename_i h0
  obtain⟨h1,h2⟩:=h0
  have h3:=h1.2.1
  have h4:zxi t=max t.Len.toNat 1:=by simp[zxi,h1]
  split at h
  ·cases h;omega
  ·split at h
   ·cases h;omega
   ·cases h
 ·cases h
theorem z8n {t:xsz} {l:List Int} {i:Int}:∃k b,zox t l i=some (k,b)/\(b=true->ztu t l.length i=some k.toNat/\0<=k)/\(b=false->ztu t l.length i=none):=by
 unfold zox;rw[z07,ybw];simp only[Waa]
 by_cases h:tOk t
 case neg=>exact⟨0,false,by simp[h],by simp,fun _=>by simp[ztu,h]⟩
 by_cases h2:l.length=zxi t
 case neg=>exact⟨0,false,by simp only[h,if_true];rw[if_neg (by omega)],by simp,fun _=>by simp[ztu,h2]⟩
 have a1:=h.2.1;have a2:=h.2.2.1;have a3:=h.2.2.2.1;have U:=h.2.2.2.2.1
 by_cases h3:t.Len=0
 ·exact⟨0,true,by simp[h,h2,h3],fun _=>⟨by simp[ztu,h,h2,h3],by omega⟩,by simp⟩
 by_cases h4:t.Low<=i
 ·have e:w64 (t.Low+t.Len)=t.Low+t.Len:=zfr (by omega) (by omega)
  by_cases h5:i<t.Low+t.Len
  ·have I:w64 (i-t.Low)=i-t.Low:=zfr (by omega) (by omega)
   exact⟨i-t.Low,true,by simp[h,h2,h3,h4,e,I,h5],fun _=>⟨by simp[ztu,h,h2,h3,h4,h5],by omega⟩,by simp⟩
  ·exact⟨w64 (i-t.Low),false,by simp[h,h2,h3,h4,e,h5],by simp,fun _=>by simp[ztu,h,h2,h3,h5]⟩
 ·exact⟨w64 (i-t.Low),false,by simp[h,h2,h3,h4],by simp,fun _=>by simp[ztu,h,h2,h3,h4]⟩
def getN (t:xsz) (l:List Int) (i:Int):Int×Int:=match ztu t l.length i with|some k=>(l.getD k 0,0)|none=>(0,2)
theorem z7f (t:xsz) (l:List Int) (i:Int):zq4 t l i=some (getN t l i):=by
 unfold zq4 getN;obtain⟨k,b,e,h1,h2⟩:= @z8n t l i;rw[e,Waa]
 cases b with
 |false=>rw[h2 rfl];simp
 |true=>
  obtain⟨h3,h4⟩:=h1 rfl
  have:=yc7 h3
  rw[h3];simp[idx,h4,this,List.getD_eq_getElem?_getD]
def okV (k n:Int):Prop:=(k=1/\(n=0\/n=1))\/(k=2/\-32768<=n/\n<32768)\/((k=3\/k=4)/\-2147483648<=n/\n<2147483648)
def isK (k:Int):Prop:=k=1\/k=2\/k=3\/k=4
theorem z8v {k n:Int} (h:zbm k n=some true):okV k n:=by
 unfold zbm zbb zds at h
 by_cases U:k=1
 ·subst U
  by_cases h0:n=0
  ·exact .inl ⟨rfl,.inl h0⟩
  ·simp[h0]at h;exact .inl ⟨rfl,.inr h⟩
 by_cases k2:k=2
 ·subst k2
  simp[zqa]at h
  by_cases h0:-32768<=n
  ·simp[h0]at h;exact .inr (.inl ⟨rfl,h0,h⟩)
  ·simp[h0]at h
 by_cases I:k=3\/k=4
 ·refine .inr (.inr ⟨I,?_⟩)
  by_cases h0:-2147483648<=n
  ·rcases I with rfl|rfl<;>simp[zqa,h0]at h<;>exact⟨h0,h⟩
  ·rcases I with rfl|rfl<;>simp[zqa,h0]at h
 ·have a3:¬k=3:=fun h=>I (.inl h)
  have a4:¬k=4:=fun h=>I (.inr h)
  simp[U,k2,a3,a4]at h
theorem ydc {k:Int} (h:isK k):okV k 0:=by unfold okV;unfold isK at h;omega
theorem zu0 {k:Int} (h:isK k) (n:Int):okV k (zp9 k n):=by
 rcases h with rfl|rfl|rfl|rfl
 ·rw[yju];split<;>simp[okV]
 ·rw[yeu];unfold okV;omega
 ·rw[yet];unfold okV;omega
 ·rw[yes];unfold okV;omega
theorem zvw {op k r:Int} (h:zah op k=some r) (h0:r≠0):isK k/\(((op=5\/(7<=op/\op<=11)\/op=6\/(18<=op/\op<=20))/\r=k)\/((12<=op/\op<=17)/\r=1)):=by
 unfold zah at h;obtain⟨b,hb,U⟩:=z4d k;rw[hb,Waa]at h
 by_cases I:b=0
 ·rw[if_pos I]at h;cases h;exact absurd rfl h0
 rw[if_neg I]at h;refine⟨U I,?_⟩
 have two:∀{c:Prop} [Decidable c] {x:Int},(if c then some (0:Int)else some x)=some r->r=x:=fun{c} _ {x} h=>by
  by_cases hc:c
  ·rw[if_pos hc]at h;cases h;exact absurd rfl h0
  ·rw[if_neg hc]at h;cases h;rfl
 by_cases c1:op=5
 ·rw[if_pos c1]at h;exact .inl ⟨.inl c1,two h⟩
 rw[if_neg c1]at h
 by_cases c2:7<=op/\op<=11
 ·rw[if_pos c2.1,if_pos c2.2]at h;exact .inl ⟨.inr (.inl c2),two h⟩
 by_cases c3:op=6
 ·rw[if_neg (by omega),if_pos c3]at h;exact .inl ⟨.inr (.inr (.inl c3)),two h⟩
 by_cases c4:18<=op/\op<=20
 ·rw[if_pos (by omega),if_neg (by omega),if_neg c3,if_pos c4.1,if_pos c4.2]at h;exact .inl ⟨.inr (.inr (.inr c4)),two h⟩
 by_cases c5:12<=op/\op<=17
 ·refine .inr ⟨c5,?_⟩
  rw[if_pos (by omega),if_neg (by omega),if_neg c3,if_neg (by omega)]at h
  by_cases d1:op=12
  ·rw[if_pos d1]at h;cases h;rfl
  rw[if_neg d1]at h
  by_cases d2:op=13
  ·rw[if_pos d2]at h;cases h;rfl
  rw[if_neg d2,if_pos (by omega),if_pos c5.2]at h;exact two h
 ·exfalso
  by_cases d:7<=op
  ·rw[if_pos d,if_neg (by omega),if_neg c3,if_pos (by omega),if_neg (by omega),if_neg (by omega),if_neg (by omega),if_pos (by omega),if_neg (by omega)]at h;cases h;exact h0 rfl
  ·rw[if_neg d,if_neg c3,if_neg (by omega),if_neg (by omega),if_neg (by omega),if_neg (by omega)]at h;cases h;exact h0 rfl
theorem zmp {op k r:Int} (h:zah op k=some r) (h0:r≠0):isK k/\isK r:=by
 obtain⟨I,h|h⟩:=zvw h h0
 ·rw[h.2];exact⟨I,I⟩
 ·exact⟨I,.inl h.2⟩
theorem z0y {op k r:Int} (h:zah op k=some r) (h0:r≠0) (I:op=5\/op=6\/(7<=op/\op<=11)\/(18<=op/\op<=20)):r=k:=by
 have:=zvw h h0;omega
theorem z7w {op k r:Int} (h:zah op k=some r) (h0:r≠0) (I:12<=op/\op<=17):r=1:=by
 have:=zvw h h0;omega
theorem z7v {k r:Int} (h:zah 6 k=some r) (h0:r≠0):k≠4:=by
 rintro rfl;simp[zah,zbb]at h;exact h0 h.symm
theorem zzj {op k r:Int} (h:zah op k=some r):zjp op k=some r:=by
 obtain⟨I,_,_,h1,h2⟩:=z6d op k;rw[h]at h2;cases h2;exact h1
theorem yfs {n:Int} (h1:-2147483648<=n) (h2:n<2147483648):xnot .i64 n=-1-n:=by
 show IntKind.i64.wrap ((BitVec.ofInt 64 (-1)^^^BitVec.ofInt 64 n).toNat:Nat)=-1-n
 have h1:BitVec.ofInt 64 (-1)=BitVec.allOnes 64:=by decide
 rw[h1,BitVec.allOnes_xor,BitVec.toNat_not,BitVec.toNat_ofInt]
 show w64 _=_
 rw[zqa];omega
theorem unOk {op k a r:Int} (ho:op=5\/op=6) (h:zah op k=some r) (h0:r≠0):∃v,zlq op k a=some v/\okV r v:=by
 have I:=(zmp h h0).1
 have e:r=k:=z0y h h0 (by omega)
 unfold zlq;rw[zzj h,Waa,if_neg h0];simp only[za9,Waa];subst e
 rcases ho with rfl|rfl
 ·exact⟨_,rfl,zu0 I _⟩
 ·rw[if_neg (by decide),if_pos rfl]
  have h4:=z7v h h0
  have hv:=zu0 I a
  by_cases U:r=1
  ·subst U
   rw[if_pos rfl];refine⟨_,rfl,?_⟩
   have:zp9 1 a=0\/zp9 1 a=1:=by unfold okV at hv;omega
   rcases this with h|h<;>rw[h]<;>simp[okV,zqa]
  ·rw[if_neg U]
   refine⟨_,rfl,?_⟩;rw[yfs (by unfold okV at hv;omega) (by unfold okV at hv;omega)];unfold okV at hv|-;omega
theorem ynr (b:Bool):∃v,zl8 b=some v/\okV 1 v:=by cases b<;>exact⟨_,rfl,by simp[okV]⟩
theorem yrl (op a b:Int):∃v,zng op a b=some v/\okV 1 v:=by
 unfold zng
 repeat' split
 all_goals (obtain⟨v,h,h1⟩:=ynr _;rw[h];exact⟨v,rfl,h1⟩)
theorem yrm {op k a b r:Int} (ho:7<=op/\op<=20) (h:zah op k=some r) (h0:r≠0):∃v c,zmu op k a b=some (v,c)/\okV r v/\(c=0\/c=1):=by
 have hk:=(zmp h h0).1
 unfold zmu;rw[if_neg (by omega),if_neg (by omega),zzj h,Waa,if_neg h0];simp only[za9,Waa]
 by_cases hc:12<=op/\op<=17
 ·have e:=z7w h h0 hc
  subst e;rw[if_neg (by omega),if_neg (by omega),if_neg (by omega),if_neg (by omega),if_neg (by omega),if_neg (by omega),if_neg (by omega),if_neg (by omega)];obtain⟨v,h1,h2⟩:=yrl op (zp9 k a) (zp9 k b);rw[h1];exact⟨v,0,rfl,h2,.inl rfl⟩
 ·have e:r=k:=z0y h h0 (by omega)
  subst e
  have W:∀n,∃v c,some (zp9 r n,(0:Int))=some (v,c)/\okV r v/\(c=0\/c=1):=fun n=>⟨_,_,rfl,zu0 hk n,.inl rfl⟩
  have Z:∃v c,some ((0:Int),(1:Int))=some (v,c)/\okV r v/\(c=0\/c=1):=⟨_,_,rfl,ydc hk,.inr rfl⟩
  by_cases o8:op=8
  ·subst o8
   rw[if_neg (by omega),if_pos rfl]
   by_cases z:zp9 r b=0
   ·rw[if_pos z];exact Z
   ·rw[if_neg z,zc3 z,if_neg (by omega)];exact W _
  by_cases o9:op=9
  ·subst o9
   rw[if_neg (by omega),if_neg (by omega),if_pos rfl]
   by_cases z:zp9 r b=0
   ·rw[if_pos z];exact Z
   ·rw[if_neg z,zc3 z,zc3 z];exact W _
  by_cases o7:op=7
  ·rw[if_pos o7];exact W _
  rw[if_neg o7,if_neg o8,if_neg o9]
  by_cases I:op=10
  ·rw[if_pos I];exact W _
  by_cases U:op=11
  ·rw[if_neg I,if_pos U];exact W _
  by_cases aa:op=18
  ·rw[if_neg I,if_neg U,if_pos aa];exact W _
  by_cases ab:op=19
  ·rw[if_neg I,if_neg U,if_neg aa,if_pos ab];exact W _
  have ad:op=20:=by omega
  rw[if_neg I,if_neg U,if_neg aa,if_neg ab,if_pos ad];exact W _
theorem z5u (b:Bool):∃v,zbq b=some v/\okV 1 v:=by cases b<;>exact⟨_,rfl,by simp[okV]⟩
theorem yqh {name:Str} (s:A4 Int) {i:Int} {l:List Int} (hl:zbj name=some l) (h0:0<=i) (h1:i<(l.length:Int)):∃v,ziy name s i=some v/\okV (l.getD i.toNat 0) v:=by
 have k1:∀(s:A4 Int),∃v,(zbq (!(decide (s.a0=0))))=some v/\okV 1 v:=fun s=>z5u _
 unfold zbj at hl
 repeat' (first|(cases hl;done)|split at hl)
 all_goals cases hl
 all_goals (simp only[Waj,Wam,Int.natCast_add,Int.reduceAdd]at h1;subst_vars)
 all_goals (have hi:i=0\/i=1\/i=2:=by omega)
 all_goals (rcases hi with rfl|rfl|rfl)
 all_goals (first|(exfalso;revert h1;decide)|skip)
 all_goals (first
  |(obtain⟨v,e,hv⟩:=k1 s;refine⟨v,?_,hv⟩;simp[ziy,e];done)
  |(refine⟨zp9 4 s.a1,?_,zu0 (.inr (.inr (.inr rfl))) _⟩;simp[ziy,zc2,za9,idx];done)
  |(refine⟨zp9 2 s.a1,?_,zu0 (.inr (.inl rfl)) _⟩;simp[ziy,zc2,za9,idx];done)
  |(obtain⟨v1,I,g1⟩:=z5u (decide (s.a3<=s.a0))
    obtain⟨v2,U,g2⟩:=z5u (decide (s.a0<=0))
    first|(refine⟨v1,?_,g1⟩;simp[ziy,zc2,za9,I,U];done)|(refine⟨v2,?_,g2⟩;simp[ziy,zc2,za9,I,U];done)|(refine⟨zp9 2 s.a0,?_,zu0 (.inr (.inl rfl)) _⟩;simp[ziy,zc2,za9,I,U];done)))
end Go.Lz

end
section
namespace Go.Lz
inductive Reach (l:xsn) (a:Nat):Nat->Prop
 |refl:Reach l a a
 |step {x y:Nat} {e:A2 Int} (h:Reach l a x) (he:e∈l.Below) (h0:e.a0=x) (h1:e.a1=y) (hy:y<l.Names.length):Reach l a y
def inN (l:xsn) (a:Int):Prop:=0<=a/\a<(l.Names.length:Int)
instance (l:xsn) (a:Int):Decidable (inN l a):=by unfold inN;exact inferInstance
open Classical in
noncomputable def leqN (l:xsn) (a b:Int):Bool:=decide (inN l a/\inN l b/\Reach l a.toNat b.toNat)
theorem Reach.lt {l:xsn} {a b:Nat} (ha:a<l.Names.length) (h:Reach l a b):b<l.Names.length:=by
 cases h with
 |refl=>exact ha
 |step _ _ _ _ hy=>exact hy
theorem Reach.trans {l:xsn} {a b c:Nat} (h1:Reach l a b) (h2:Reach l b c):Reach l a c:=by
 induction h2 with
 |refl=>exact h1
 |step _ he h0 h1 hy I=>exact .step I he h0 h1 hy
theorem z4r (l:xsn) (a:Int):za4 l a=some (decide (inN l a)):=by
 unfold za4 inN
 by_cases h:0<=a<;>simp[h]
theorem marks {l:xsn} {a:Nat} {out:List Bool} (hlen:out.length=l.Names.length) (ha:out[a]? =some true) (hr:∀k:Nat,out[k]? =some true->Reach l a k)
  (hc:∀(k:Nat) (e:A2 Int) (y:Nat),out[k]? =some true->e∈l.Below->e.a0=k->e.a1=y->y<l.Names.length->out[y]? =some true) (k:Nat):out[k]? =some true↔Reach l a k:=by
 refine⟨hr k,fun h=>?_⟩
 induction h with
 |refl=>exact ha
 |step _ he h0 h1 hy I=>exact hc _ _ _ I he h0 h1 hy
structure InvA (l:xsn) (a:Nat) (out:List Bool):Prop where
 len:out.length=l.Names.length
 ha:out[a]? =some true
 hr:∀k:Nat,out[k]? =some true->Reach l a k
structure InvB (l:xsn) (a:Nat) (out0 out:List Bool) (more:Bool) (i:Nat):Prop extends InvA l a out where
 il:i<=l.Below.length
 cnt:out.count false+(if more then 1 else 0)<=out0.count false
 same:more=false->∀(j:Nat) (e:A2 Int) (x y:Nat),j<i->l.Below[j]? =some e->e.a0=x->e.a1=y->y<l.Names.length->out[x]? =some true->out[y]? =some true
theorem pass {l:xsn} {a:Nat} (ha:a<l.Names.length) {out0:List Bool} (h0:InvA l a out0):
  ∃r:List Bool×Bool,loop (zfk l) (out0,false,0)=some r/\InvB l a out0 r.1 r.2 l.Below.length:=by
 refine zlz (fun s=>InvB l a out0 s.1 s.2.1 s.2.2) (fun(r:List Bool×Bool)=>InvB l a out0 r.1 r.2 l.Below.length) (fun s=>l.Below.length-s.2.2) ?_ (out0,false,0)
  ⟨h0,Waf _,by simp,fun _ j e x y hj=>(Nat.not_lt_zero _ hj).elim⟩
 rintro⟨out,more,i⟩ h;dsimp only at h|-
 by_cases hi:i<l.Below.length
 ·left
  have aa:l.Below[i]? =some l.Below[i]:=Wac hi
  have skip:(∀x y:Nat,l.Below[i].a0=x->l.Below[i].a1=y->y<l.Names.length->out[x]? =some true->out[y]? =some true)->InvB l a out0 out more (i+1):=fun hs=>
   ⟨h.toInvA,hi,h.cnt,fun hm j e x y hj ab e0 e1 hy I=>by
     rcases WaI j i with aj|aj
     ·exact h.same hm j e x y aj ab e0 e1 hy I
     ·obtain rfl:j=i:=by omega
      rw[aa]at ab;obtain rfl:=Wab ab
      exact hs x y e0 e1 hy I⟩
  simp only[zfk,Way,hi,if_true,aa,Waa,z4r,decide_eq_true_eq]
  by_cases c1:inN l l.Below[i].a0
  ·simp only[c1,if_true]
   by_cases c2:inN l l.Below[i].a1
   ·simp only[c2,if_true]
    obtain⟨x,I⟩:∃x:Nat,l.Below[i].a0=x:=⟨l.Below[i].a0.toNat,by have:=c1.1;omega⟩;obtain⟨y,hy⟩:∃y:Nat,l.Below[i].a1=y:=⟨l.Below[i].a1.toNat,by have:=c2.1;omega⟩
    have ar:x<l.Names.length:=by have:=c1.2;omega
    have ak:y<l.Names.length:=by have:=c2.2;omega
    have au:x<out.length:=by rw[h.len];exact ar
    have al:y<out.length:=by rw[h.len];exact ak
    rw[hy,I,znq,znq]
    have ad:out[x]? =some out[x]:=Wac au
    have ae:out[y]? =some out[y]:=Wac al
    rw[ad,Waa]
    cases an:out[x]with
    |false=>
     simp only[WaD,if_false];exact⟨_,rfl,skip (fun x' y' e0 _ _ ao=>by rw[I]at e0;obtain rfl:x=x':=(by omega);rw[ad,an]at ao;cases ao),by simp only;omega⟩
    |true=>
     simp only[if_true];rw[ae,Waa]
     cases hb:out[y]with
     |true=>
      simp only[if_true];exact⟨_,rfl,skip (fun x' y' _ e1 _ _=>by rw[hy]at e1;obtain rfl:y=y':=(by omega);rw[ae,hb]),by simp only;omega⟩
     |false=>
      have av:out[y]? =some false:=by rw[ae,hb]
      have aw:=zw6 av
      have aq:(out.set y true)[y]? =some true:=WaW al
      have af:∀k:Nat,out[k]? =some true->(out.set y true)[k]? =some true:=fun k U=>by
       by_cases e:y=k
       ·subst e;exact aq
       ·rw[WaV e];exact U
      have ai:∀k:Nat,(out.set y true)[k]? =some true->k=y\/out[k]? =some true:=fun k U=>by
       by_cases e:y=k
       ·exact .inl e.symm
       ·rw[WaV e]at U;exact .inr U
      have ax:=h.cnt
      simp only[WaD,if_false,Int.toNat_natCast];refine⟨(out.set y true,true,i+1),rfl,?_,by simp only;omega⟩;dsimp only;refine⟨⟨by simpa using h.len,af _ h.ha,fun k U=>?_⟩,hi,by simp only[if_true];omega,fun hm=>by cases hm⟩
      rcases ai k U with rfl|U
      ·exact .step (h.hr x (by rw[ad,an])) (Wap hi) I hy ak
      ·exact h.hr k U
   ·simp only[c2,if_false]
    exact⟨_,rfl,skip (fun x y _ e1 hy _=>(c2 ⟨by omega,by omega⟩).elim),by simp only;omega⟩
  ·simp only[c1,if_false]
   exact⟨_,rfl,skip (fun x y e0 _ _ I=>by
    have hl:=(h.hr x I).lt ha
    exact(c1 ⟨by omega,by omega⟩).elim),by simp only;omega⟩
 ·right
  have:i=l.Below.length:=by have:=h.il;omega
  subst this;exact⟨(out,more),by simp[zfk],h⟩
theorem ye1 {l:xsn} {a:Nat} (ha:a<l.Names.length):
  ∃out:List Bool,loop (zdx l) ((List.replicate l.Names.length false).set a true,true)=some out/\out.length=l.Names.length/\∀k:Nat,out[k]? =some true↔Reach l a k:=by
 have ab:((List.replicate l.Names.length false).set a true)[a]? =some true:=WaW (by simpa using ha)
 have aa:∀k:Nat,((List.replicate l.Names.length false).set a true)[k]? =some true->k=a:=fun k U=>by
  by_cases e:a=k
  ·exact e.symm
  ·rw[WaV e]at U;simp[Wb3]at U
 obtain⟨out,e,h1,h2⟩:=zlz (f:=zdx l)
  (fun s=>InvA l a s.1/\(s.2=false->∀(k:Nat) (e:A2 Int) (y:Nat),s.1[k]? =some true->e∈l.Below->e.a0=k->e.a1=y->y<l.Names.length->s.1[y]? =some true))
  (fun(r:List Bool)=>InvA l a r/\∀(k:Nat) (e:A2 Int) (y:Nat),r[k]? =some true->e∈l.Below->e.a0=k->e.a1=y->y<l.Names.length->r[y]? =some true)
  (fun s=>2*s.1.count false+(if s.2 then 1 else 0)) (by
    rintro⟨out,more⟩ ⟨h1,h2⟩;dsimp only at h1 h2|-
    cases more with
    |false=>right;exact⟨out,by simp[zdx],h1,h2 rfl⟩
    |true=>
     left
     obtain⟨⟨ad,I⟩,e2,h3⟩:=pass ha h1;dsimp only at h3;refine⟨(ad,I),by simp only[zdx,if_true,e2,Waa],⟨h3.toInvA,fun hm k e y U he e0 e1 hy=>?_⟩,?_⟩
     ·obtain⟨j,hj⟩:=WbK he
      exact h3.same hm j e k y (Wag.1 hj).1 hj e0 e1 hy U
     ·have:=h3.cnt
      cases I with
      |true=>simp only[if_true]at this|-;omega
      |false=>simp only[WaD,if_false,if_true]at this|-;omega)
  ((List.replicate l.Names.length false).set a true,true) ⟨⟨by simp,ab,fun k U=>by rw[aa k U];exact .refl⟩,fun h=>by cases h⟩
 exact⟨out,e,h1.len,marks h1.len h1.ha h1.hr h2⟩
theorem zsn {l:xsn} (hn:l.Names.length<=1000000) (a b:Int):zak l a b=some (leqN l a b):=by
 unfold zak leqN;simp only[z4r,Waa,decide_eq_true_eq]
 by_cases ha:inN l a
 ·by_cases hb:inN l b
  ·obtain⟨x,rfl⟩:∃x:Nat,a=x:=⟨a.toNat,by have:=ha.1;omega⟩
   obtain⟨y,rfl⟩:∃y:Nat,b=y:=⟨b.toNat,by have:=hb.1;omega⟩
   have I:x<l.Names.length:=by have:=ha.2;omega
   obtain⟨out,e,hlen,hr⟩:=ye1 I
   have hy:y<out.length:=by have:=hb.2;omega
   simp only[ha,hb,if_true];rw[zc3 (by omega),znq,Wac (by simpa using I),Waa,Int.toNat_natCast,e];simp only[Waa,znq,Wac hy,Int.toNat_natCast]
   congr 1
   rw[Wa5];simp only[decide_eq_true_eq,ha,hb,true_and];rw[<-hr y,Wac hy];simp
  ·simp[ha,hb]
 ·simp[ha]
end Go.Lz

end
section
namespace Go.Lz
instance (l:xsn) (a:Int):Decidable (inN l a):=by unfold inN;exact inferInstance
theorem yhq (l:xsn) (a:Int):zko l a=some (decide (inN l a)):=by
 unfold zko inN
 by_cases h:0<=a<;>simp[h]
structure Inv1 (l:xsn) (a:Nat) (out:List Bool) (todo:List Int):Prop where
 len:out.length=l.Names.length
 ha:out[a]? =some true
 hr:∀k:Nat,out[k]? =some true->Reach l a k
 td:∀t∈todo,0<=t/\out[t.toNat]? =some true
 cnt:out.count false+todo.length<=l.Names.length
structure Inv2 (l:xsn) (a:Nat) (x:Nat) (out0:List Bool) (todo0:List Int) (out:List Bool) (todo:List Int) (i:Nat):Prop extends Inv1 l a out todo where
 il:i<=l.Below.length
 mono:∀k:Nat,out0[k]? =some true->out[k]? =some true
 sub:∀t∈todo0,t∈todo
 new:∀k:Nat,out[k]? =some true->out0[k]? =some true\/(k:Int)∈todo
 done:∀(j:Nat) (e:A2 Int) (y:Nat),j<i->l.Below[j]? =some e->e.a0=x->e.a1=y->y<l.Names.length->out[y]? =some true
 sum:out.count false+todo.length<=out0.count false+todo0.length
theorem ynz {l:xsn} (hn:l.Names.length<=1000000) {a x:Nat} {out0:List Bool} {todo0:List Int} (hx:out0[x]? =some true) (h0:Inv1 l a out0 todo0):
  ∃r:List Bool×List Int,loop (zjq l (x:Int)) (out0,todo0,0)=some r/\Inv2 l a x out0 todo0 r.1 r.2 l.Below.length:=by
 refine zlz (fun s=>Inv2 l a x out0 todo0 s.1 s.2.1 s.2.2) (fun(r:List Bool×List Int)=>Inv2 l a x out0 todo0 r.1 r.2 l.Below.length) (fun s=>l.Below.length-s.2.2) ?_ (out0,todo0,0)
  ⟨h0,Waf _,fun _ h=>h,fun _ h=>h,fun _ h=>.inl h,fun j e y hj=>(Nat.not_lt_zero _ hj).elim,Wae _⟩
 rintro⟨out,todo,i⟩ h;dsimp only at h|-
 by_cases hi:i<l.Below.length
 ·left
  have ad:l.Below[i]? =some l.Below[i]:=Wac hi
  have skip:(∀y:Nat,l.Below[i].a0=x->l.Below[i].a1=y->y<l.Names.length->out[y]? =some true)->Inv2 l a x out0 todo0 out todo (i+1):=fun hs=>
   ⟨h.toInv1,hi,h.mono,h.sub,h.new,fun j e y hj aa e0 e1 hy=>by
     rcases WaI j i with ab|ab
     ·exact h.done j e y ab aa e0 e1 hy
     ·obtain rfl:j=i:=by omega
      rw[ad]at aa;obtain rfl:=Wab aa
      exact hs y e0 e1 hy,h.sum⟩
  simp only[zjq,Way,hi,if_true,ad,Waa,yhq,decide_eq_true_eq]
  by_cases c1:l.Below[i].a0=(x:Int)
  ·simp only[c1,if_true]
   by_cases c2:inN l l.Below[i].a1
   ·simp only[c2,if_true]
    obtain⟨y,hy⟩:∃y:Nat,l.Below[i].a1=y:=⟨l.Below[i].a1.toNat,by have:=c2.1;omega⟩
    have ai:y<l.Names.length:=by have:=c2.2;omega
    have ak:y<out.length:=by rw[h.len];exact ai
    rw[hy,znq]
    have aj:out[y]? =some out[y]:=Wac ak
    rw[aj,Waa]
    cases hb:out[y]with
    |true=>
     simp only[if_true];exact⟨_,rfl,skip (fun y' _ e1 _=>by rw[hy]at e1;obtain rfl:y=y':=(by omega);rw[aj,hb]),by simp only;omega⟩
    |false=>
     have al:out[y]? =some false:=by rw[aj,hb]
     have ao:=zw6 al
     have ae:(out.set y true)[y]? =some true:=WaW (by rw[h.len];exact ai)
     have U:∀k:Nat,out[k]? =some true->(out.set y true)[k]? =some true:=fun k I=>by
      by_cases e:y=k
      ·subst e;exact ae
      ·rw[WaV e];exact I
     have af:∀k:Nat,(out.set y true)[k]? =some true->k=y\/out[k]? =some true:=fun k I=>by
      by_cases e:y=k
      ·exact .inl e.symm
      ·rw[WaV e]at I;exact .inr I
     have aq:=h.cnt
     have ar:=h.sum
     simp only[WaD,if_false,Int.toNat_natCast];rw[zc3 (by omega)];refine⟨(out.set y true,todo++[(y:Int)],i+1),rfl,?_,by simp only;omega⟩;dsimp only
     refine⟨⟨by simpa using h.len,U _ h.ha,fun k I=>?_,fun t ht=>?_,by simp only[Wai,WbA];omega⟩,hi,fun k I=>U k (h.mono k I),fun t ht=>Wcb _ (h.sub t ht),
      fun k I=>?_,fun j e y' hj aa e0 e1 an=>?_,by simp only[Wai,WbA];omega⟩
     ·rcases af k I with rfl|I
      ·exact .step (h.hr x (h.mono x hx)) (Wap hi) c1 hy ai
      ·exact h.hr k I
     ·rcases WaG.1 ht with ht|ht
      ·exact⟨(h.td t ht).1,U _ (h.td t ht).2⟩
      ·rw[WaK]at ht
       subst ht;exact⟨by omega,by simpa using ae⟩
     ·rcases af k I with rfl|I
      ·exact .inr (by simp)
      ·rcases h.new k I with h'|h'
       ·exact .inl h'
       ·exact .inr (Wcb _ h')
     ·rcases WaI j i with ab|ab
      ·exact U _ (h.done j e y' ab aa e0 e1 an)
      ·obtain rfl:j=i:=by omega
       rw[ad]at aa;obtain rfl:=Wab aa;rw[hy]at e1
       obtain rfl:y=y':=by omega
       exact ae
   ·simp only[c2,if_false]
    exact⟨_,rfl,skip (fun y _ e1 hy=>(c2 ⟨by omega,by omega⟩).elim),by simp only;omega⟩
  ·simp only[c1,if_false]
   exact⟨_,rfl,skip (fun y e0 _ _=>(c1 e0).elim),by simp only;omega⟩
 ·right
  have:i=l.Below.length:=by have:=h.il;omega
  subst this;exact⟨(out,todo),by simp[zjq],h⟩
theorem ycd {l:xsn} (hn:l.Names.length<=1000000) {a:Nat} (ha:a<l.Names.length):∃out:List Bool,zjo l (a:Int)=some out/\out.length=l.Names.length/\∀k:Nat,out[k]? =some true↔Reach l a k:=by
 let I:List Bool×List Int->Prop:=fun s=>Inv1 l a s.1 s.2/\∀(k:Nat) (e:A2 Int) (y:Nat),s.1[k]? =some true->(k:Int)∈s.2\/(e∈l.Below->e.a0=k->e.a1=y->y<l.Names.length->s.1[y]? =some true)
 have hI:I ((List.replicate l.Names.length false).set a true,[(a:Int)]):=by
  have ab:((List.replicate l.Names.length false).set a true)[a]? =some true:=WaW (by simpa using ha)
  have aa:∀k:Nat,((List.replicate l.Names.length false).set a true)[k]? =some true->k=a:=fun k U=>by
   by_cases e:a=k
   ·exact e.symm
   ·rw[WaV e]at U;simp[Wb3]at U
  have hc:=zw6 (xs:=List.replicate l.Names.length false) (i:=a) (by simp[Wb3,ha])
  refine⟨⟨by simp,ab,fun k U=>by rw[aa k U];exact .refl,fun t ht=>?_,?_⟩,fun k e y U=>.inl ?_⟩
  ·simp only[WaK]at ht;subst ht;exact⟨by omega,by simpa using ab⟩
  ·simp only[List.count_replicate_self]at hc;simp only[WbA];omega
  ·rw[aa k U];simp
 obtain⟨⟨out,todo⟩,e,hr⟩:=zlz (f:=zjr l) I (fun r=>Inv1 l a r.1 r.2/\r.2=[]/\I r) (fun s=>s.1.count false+s.2.length) (by
  rintro⟨out,todo⟩ ⟨h1,h2⟩;dsimp only at h1 h2|-
  cases todo with
  |nil=>right;exact⟨(out,[]),by simp[zjr],h1,rfl,h1,h2⟩
  |cons t todo=>
   left
   obtain⟨x,rfl⟩:∃x:Nat,t=x:=⟨t.toNat,by have:=(h1.td t (by simp)).1;omega⟩
   have hx:out[x]? =some true:=by simpa using(h1.td x (by simp)).2
   have ai:=h1.cnt
   simp only[Waj]at ai
   have h0:Inv1 l a out todo:=⟨h1.len,h1.ha,h1.hr,fun t ht=>h1.td t (by simp[ht]),by omega⟩
   obtain⟨⟨af,ae⟩,e2,h3⟩:=ynz hn hx h0;dsimp only at h3
   have aj:=h3.sum
   refine⟨(af,ae),?_,⟨h3.toInv1,fun k e y U=>?_⟩,by simp only[Waj];omega⟩
   ·have hp:(1:Int)<=((List.length ((x:Int)::todo):Nat):Int):=by simp only[Waj];omega
    have hq:0<((List.length ((x:Int)::todo):Nat):Int):=by simp only[Waj];omega
    simp only[zjr,hq,if_true,Wau,Waa,zc3 hp,List.drop_succ_cons,Wby,e2]
   ·rcases h3.new k U with ad|ad
    ·rcases h2 k e y ad with h4|h4
     ·rcases Wax.1 h4 with h5|h5
      ·have h5:k=x:=by omega
       subst h5
       exact .inr fun he e0 e1 hy=>by
        obtain⟨j,hj⟩:=WbK he;exact h3.done j e y (Wag.1 hj).1 hj e0 e1 hy
      ·exact .inl (h3.sub _ h5)
     ·exact .inr fun he e0 e1 hy=>h3.mono y (h4 he e0 e1 hy)
    ·exact .inl ad) _ hI
 obtain⟨h1,rfl,_,h2⟩:=hr;refine⟨out,?_,h1.len,marks h1.len h1.ha h1.hr fun k e y U he e0 e1 hy=>(h2 k e y U).elim (fun h=>by simp at h) fun h=>h he e0 e1 hy⟩;unfold zjo;rw[zc3 (by omega),znq,Wac (by simpa using ha),Waa,Int.toNat_natCast,e];rfl
theorem yfa {l:xsn} (hn:l.Names.length<=1000000) (a b:Int):zmt l a b=some (leqN l a b):=by
 unfold zmt leqN;simp only[yhq,Waa,decide_eq_true_eq]
 by_cases ha:inN l a
 ·by_cases hb:inN l b
  ·obtain⟨x,rfl⟩:∃x:Nat,a=x:=⟨a.toNat,by have:=ha.1;omega⟩
   obtain⟨y,rfl⟩:∃y:Nat,b=y:=⟨b.toNat,by have:=hb.1;omega⟩;obtain⟨out,e,hlen,hr⟩:=ycd hn (a:=x) (by have:=ha.2;omega)
   have hy:y<out.length:=by have:=hb.2;omega
   simp only[ha,hb,if_true,e,Waa,znq,Wac hy,Int.toNat_natCast]
   congr 1
   rw[Wa5];simp only[decide_eq_true_eq,ha,hb,true_and];rw[<-hr y,Wac hy];simp
  ·simp[ha,hb]
 ·simp[ha]
end Go.Lz

end
section
namespace Go.Lz
def zsi (n:Nat) (o:Nat->Bool) (ah:Nat->Nat->Bool):Int:=
 ((List.range n).find? fun x=>o x&&(List.range n).all fun y=> !o y||ah x y).elim (-1) fun x=>(x:Int)
noncomputable def znf (l:xsn) (a b:Int):Int:=zsi l.Names.length (fun c=>leqN l a c&&leqN l b c) (fun c d=>leqN l c d)
noncomputable def z0l (l:xsn) (a b:Int):Int:=zsi l.Names.length (fun c=>leqN l c a&&leqN l c b) (fun c d=>leqN l d c)
noncomputable def zlg (l:xsn):Int:=zsi l.Names.length (fun _=>true) (fun c d=>leqN l c d)
theorem yb2 {n:Nat} {o:Nat->Bool} {ah:Nat->Nat->Bool} (h:∀x,x<n->o x=false):zsi n o ah=-1:=by
 unfold zsi;rw[List.find?_eq_none.2 fun x I=>by simp[h x (by simpa using I)]];rfl
theorem yah {l:xsn} {a b:Int} (h:¬inN l a\/¬inN l b):leqN l a b=false:=by
 unfold leqN;rw[decide_eq_false_iff_not];rintro⟨h1,h2,_⟩;exact h.elim (fun h=>h h1) (fun h=>h h2)
theorem zzk {l:xsn} (hn:l.Names.length<=1000000) (a b:Int):zcv l a b=some (znf l a b):=by
 have U:∀(c:Nat) (ok:Bool),loop (zdi l a b c) (ok,0)=some (ok&&(List.range l.Names.length).all fun y=> !(leqN l a y&&leqN l b y)||leqN l c y):=fun c ok=>
  zt1 l.Names.length _ (fun d I=>by
   simp only[zdi,Way,I,if_true,zsn hn,Waa]
   cases leqN l a d<;>cases leqN l b d<;>simp) (fun d I=>by simp[zdi,I]) (fun b=>by simp[zdi]) ok
 have aa:∀(c:Nat) (ok:Bool),loop (zdh l a b c) (ok,0)=some (ok&&(List.range l.Names.length).all fun y=> !(leqN l a y&&leqN l b y)||leqN l c y):=fun c ok=>
  zt1 l.Names.length _ (fun d I=>by
   simp only[zdh,Way,I,if_true,zsn hn,Waa]
   cases leqN l a d<;>cases leqN l b d<;>simp) (fun d I=>by simp[zdh,I]) (fun b=>by simp[zdh]) ok
 have key:=zkn (f:=zex l a b) l.Names.length (fun x=>(leqN l a x&&leqN l b x)&&(List.range l.Names.length).all fun y=> !(leqN l a y&&leqN l b y)||leqN l x y) (fun x=>.inl (x:Int)) (.inr ()) (by
  intro x hx;simp only[zex,Way,hx,if_true,zsn hn,U,aa,Waa]
  cases leqN l a x<;>cases leqN l b x<;>cases (List.range l.Names.length).all (fun y=> !(leqN l a y&&leqN l b y)||leqN l x y)<;>rfl) (by simp[zex])
 unfold zcv;rw[key,znf,zsi,Waa];cases (List.range l.Names.length).find? fun(x:Nat)=>(leqN l a x&&leqN l b x)&&(List.range l.Names.length).all fun y=> !(leqN l a y&&leqN l b y)||leqN l x y<;>rfl
theorem yg1 {l:xsn} (hn:l.Names.length<=1000000) (a b:Int):ze2 l a b=some (z0l l a b):=by
 have U:∀(c:Nat) (ok:Bool),loop (zdg l a b c) (ok,0)=some (ok&&(List.range l.Names.length).all fun y=> !(leqN l y a&&leqN l y b)||leqN l y c):=fun c ok=>
  zt1 l.Names.length _ (fun d I=>by
   simp only[zdg,Way,I,if_true,zsn hn,Waa]
   cases leqN l d a<;>cases leqN l d b<;>simp) (fun d I=>by simp[zdg,I]) (fun b=>by simp[zdg]) ok
 have aa:∀(c:Nat) (ok:Bool),loop (zdf l a b c) (ok,0)=some (ok&&(List.range l.Names.length).all fun y=> !(leqN l y a&&leqN l y b)||leqN l y c):=fun c ok=>
  zt1 l.Names.length _ (fun d I=>by
   simp only[zdf,Way,I,if_true,zsn hn,Waa]
   cases leqN l d a<;>cases leqN l d b<;>simp) (fun d I=>by simp[zdf,I]) (fun b=>by simp[zdf]) ok
 have key:=zkn (f:=zew l a b) l.Names.length (fun x=>(leqN l x a&&leqN l x b)&&(List.range l.Names.length).all fun y=> !(leqN l y a&&leqN l y b)||leqN l y x) (fun x=>.inl (x:Int)) (.inr ()) (by
  intro x hx;simp only[zew,Way,hx,if_true,zsn hn,U,aa,Waa]
  cases leqN l x a<;>cases leqN l x b<;>cases (List.range l.Names.length).all (fun y=> !(leqN l y a&&leqN l y b)||leqN l y x)<;>rfl) (by simp[zew])
 unfold ze2;rw[key,z0l,zsi,Waa];cases (List.range l.Names.length).find? fun(x:Nat)=>(leqN l x a&&leqN l x b)&&(List.range l.Names.length).all fun y=> !(leqN l y a&&leqN l y b)||leqN l y x<;>rfl
theorem zzl {l:xsn} (hn:l.Names.length<=1000000):zdz l=some (zlg l):=by
 have U:∀(c:Nat) (ok:Bool),loop (zcl l c) (ok,0)=some (ok&&(List.range l.Names.length).all fun y=> !true||leqN l c y):=fun c ok=>
  zt1 l.Names.length _ (fun d I=>by
   simp[zcl,I,zsn hn]) (fun d I=>by simp[zcl,I]) (fun b=>by simp[zcl]) ok
 have key:=zkn (f:=zdy l) l.Names.length (fun x=>true&&(List.range l.Names.length).all fun y=> !true||leqN l x y) (fun x=>.inl (x:Int)) (.inr ()) (by
  intro x hx;simp only[zdy,Way,hx,if_true,U,Waa]
  cases (List.range l.Names.length).all (fun y=> !true||leqN l x y)<;>rfl) (by simp[zdy])
 unfold zdz;rw[key,zlg,zsi,Waa];cases (List.range l.Names.length).find? fun(x:Nat)=>true&&(List.range l.Names.length).all fun y=> !true||leqN l x y<;>rfl
end Go.Lz

end
