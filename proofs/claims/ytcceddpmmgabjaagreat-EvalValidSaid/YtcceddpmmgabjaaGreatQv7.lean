/- The parts of a proof: V13a, V15f, V15p, Lp2, V08, V07, V06, V05, Lp3, Pt, P05, Pd, P06, P07, P08, P10, P10b, P12s, P12, P10P, P12P, P15z, P15a, PLeq, PLeqP -/
import Derived.Test.YtcceddpmmgabjaaGreatQv6
set_option linter.unusedVariables false
set_option linter.unusedSimpArgs false
section
namespace Go.Lz
open Go.Proofs
attribute [-go_sem] zmz g_b gd_b
set_option maxRecDepth 100000
set_option maxHeartbeats 4000000
noncomputable section
def zb5 (s:List xr7) (f:(xr7->Option Bool)):Nat->Option ((Nat)⊕(Int⊕Unit))
 |I=>if(I:Int)<(s.length:Int)then((s[I]?).bind fun U=>(f U).bind fun aa=>if aa=true then(some (.inr (.inl ((I:Int)))))else(some (.inl (I+1))))else(some (.inr (.inr (()))))
def zci (s:List xr7) (f:(xr7->Option Bool)):Option Int:=
 (loop (zb5 s f) 0).bind (fun I=>match I with|(.inl U)=>some U|(.inr ())=>some (-1))
def zh8 (U:(xr7->Option Str)) (c1:Str) (x:xr7):Option Bool:=
 (U x).bind fun I=>some (decide (I=c1))
def zju (l:List xr7) (name:Str) (of:(xr7->Option Str)):Option Int:=
 (zci l (zh8 of name)).bind fun I=>some I
def zqw (v:xr7):Option Str:=
 some v.Name
def zks (p:xrw) (name:Str):Option Int:=
 (zju p.Vars name zqw).bind fun I=>some I
def zbr (s:List xr9) (f:(xr9->Option Bool)):Nat->Option ((Nat)⊕(Int⊕Unit))
 |I=>if(I:Int)<(s.length:Int)then((s[I]?).bind fun U=>(f U).bind fun aa=>if aa=true then(some (.inr (.inl ((I:Int)))))else(some (.inl (I+1))))else(some (.inr (.inr (()))))
def zb2 (s:List xr9) (f:(xr9->Option Bool)):Option Int:=
 (loop (zbr s f) 0).bind (fun I=>match I with|(.inl U)=>some U|(.inr ())=>some (-1))
def zg9 (U:(xr9->Option Str)) (c1:Str) (x:xr9):Option Bool:=
 (U x).bind fun I=>some (decide (I=c1))
def zh9 (l:List xr9) (name:Str) (of:(xr9->Option Str)):Option Int:=
 (zb2 l (zg9 of name)).bind fun I=>some I
def znp (b:xr9):Option Str:=
 some b.Name
def zk0 (p:xrw) (name:Str):Option Int:=
 (zh9 p.Blocks name znp).bind fun I=>some I
def zbv (s:List xsb) (f:(xsb->Option Bool)):Nat->Option ((Nat)⊕(Int⊕Unit))
 |I=>if(I:Int)<(s.length:Int)then((s[I]?).bind fun U=>(f U).bind fun aa=>if aa=true then(some (.inr (.inl ((I:Int)))))else(some (.inl (I+1))))else(some (.inr (.inr (()))))
def zca (s:List xsb) (f:(xsb->Option Bool)):Option Int:=
 (loop (zbv s f) 0).bind (fun I=>match I with|(.inl U)=>some U|(.inr ())=>some (-1))
def zhy (U:(xsb->Option Str)) (c1:Str) (x:xsb):Option Bool:=
 (U x).bind fun I=>some (decide (I=c1))
def zil (l:List xsb) (name:Str) (of:(xsb->Option Str)):Option Int:=
 (zca l (zhy of name)).bind fun I=>some I
def zot (s:xsb):Option Str:=
 some s.Name
def zme (p:xrw) (name:Str):Option Int:=
 (zil p.Sites name zot).bind fun I=>some I
def zke (l:xr4) (a:Int):Option Bool:=
 if 0<=a then(some (decide (a<(l.Names.length:Int))))else(some false)
def zja (l:xr4) (af:Int):((List Bool)×(List Int)×Nat)->Option (((List Bool)×(List Int)×Nat)⊕((List Bool)×(List Int)))
 |(U,I,aa)=>if(aa:Int)<(l.Below.length:Int)then((l.Below[aa]?).bind fun ab=>if ab.a0=af then((zke l ab.a1).bind fun ad=>if ad=true then((idx U ab.a1).bind fun ae=>if ae=true then(some (.inl (U,I,(aa+1))))else(need ((I.length+1)*8<=140737488355328) (some (.inl ((U.set ab.a1.toNat true),(I++[ab.a1]),(aa+1))))))else(some (.inl (U,I,(aa+1)))))else(some (.inl (U,I,(aa+1)))))else(some (.inr ((U,I))))
def zjb (l:xr4):((List Bool)×(List Int))->Option (((List Bool)×(List Int))⊕((List Bool)×(List Int)))
 |(U,I)=>if 0<(I.length:Int)then((I[0]?).bind fun ad=>need ((1:Int)<=(I.length:Int)) ((loop (zja l ad) (U,(I.drop 1),0)).bind (fun(ab,aa)=>some (.inl (ab,aa)))))else(some (.inr ((U,I))))
def zi8 (l:xr4) (a:Int):Option (List Bool):=
 need (0<=(l.Names.length:Int)/\1*(l.Names.length:Int)<=140737488355328) ((idx (List.replicate l.Names.length false) a).bind fun aa=>(loop (zjb l) (((List.replicate l.Names.length false).set a.toNat true),[a])).bind (fun(I,U)=>some I))
def zid (l:xr4) (of:(Int->Option Bool)) (ahead:(Int->Int->Option Bool)) (U:Nat):Nat->Option ((Nat)⊕(Unit⊕Unit))
 |I=>if(I:Int)<(l.Names.length:Int)then((of (I:Int)).bind fun aa=>if aa=true then((ahead (U:Int) (I:Int)).bind fun ab=>if ab=true then(some (.inl (I+1)))else(some (.inr (.inl (())))))else(some (.inl (I+1))))else(some (.inr (.inr (()))))
def zka (l:xr4) (of:(Int->Option Bool)) (ahead:(Int->Int->Option Bool)):Nat->Option ((Nat)⊕(Int⊕Unit))
 |I=>if(I:Int)<(l.Names.length:Int)then((of (I:Int)).bind fun U=>if U=true then((loop (zid l of ahead I) 0).bind (fun aa=>match aa with|(.inl ())=>some (.inl (I+1))|(.inr ())=>some (.inr (.inl ((I:Int))))))else(some (.inl (I+1))))else(some (.inr (.inr (()))))
def zld (l:xr4) (of:(Int->Option Bool)) (ahead:(Int->Int->Option Bool)):Option Int:=
 (loop (zka l of ahead) 0).bind (fun U=>match U with|(.inl I)=>some I|(.inr ())=>some (-1))
def zmr (c0:List Bool) (c1:List Bool) (c:Int):Option Bool:=
 (idx c0 c).bind fun I=>if I=true then((idx c1 c).bind fun U=>some U)else(some false)
def zmh (l:xr4) (a:Int) (b:Int):Option Bool:=
 (zke l a).bind fun I=>if I=true then((zke l b).bind fun U=>if U=true then((zi8 l a).bind fun aa=>(idx aa b).bind fun ab=>some ab)else(some false))else(some false)
def zmq (U:xr4) (c:Int) (d:Int):Option Bool:=
 (zmh U c d).bind fun I=>some I
def zle (l:xr4) (a:Int) (b:Int):Option Int:=
 (zke l a).bind fun I=>if I=true then((zke l b).bind fun U=>if U=true then((zi8 l a).bind fun aa=>(zi8 l b).bind fun ab=>(zld l (zmr aa ab) (zmq l)).bind fun ad=>some ad)else(some (-1)))else(some (-1))
def zr8 (d:flow_desk):((List Int)×Nat)->Option (((List Int)×Nat)⊕(List Int))
 |(I,U)=>if(U:Int)<(d.p.Sites.length:Int)then((d.p.Sites[U]?).bind fun aa=>need ((I.length+2)*8<=140737488355328) (some (.inl ((I++[aa.From,aa.To]),(U+1)))))else(some (.inr (I)))
def zr9 (d:flow_desk) (labels:List Int):((List Int)×Nat)->Option (((List Int)×Nat)⊕(List Int))
 |(I,U)=>if(U:Int)<(w64 ((d.p.Vars.length:Int)+(d.p.Blocks.length:Int)))then(if(U:Int)<(labels.length:Int)then((labels[U]?).bind fun aa=>need ((I.length+1)*8<=140737488355328) (some (.inl ((I++[aa]),(U+1)))))else(need ((I.length+1)*8<=140737488355328) (some (.inl ((I++[(-1)]),(U+1))))))else(some (.inr (I)))
def znr (d:flow_desk) (labels:List Int):Option (List Int):=
 (loop (zr9 d labels) ([],0)).bind (fun U=>(loop (zr8 d) (U,0)).bind (fun I=>some I))
def zly (d:flow_desk) (name:Str):Option Int:=
 (zk0 d.p name).bind fun I=>some (w64 ((d.p.Vars.length:Int)+I))
def zou (d:flow_desk) (name:Str):Option Int:=
 (zme d.p name).bind fun I=>some (w64 ((w64 ((w64 ((d.p.Vars.length:Int)+(d.p.Blocks.length:Int)))+(w64 (2*I))))+1))
def zvo (p0:Int):Option Bool:=
 some true
def zkw (U:xr4) (c:Int) (d:Int):Option Bool:=
 (zmh U c d).bind fun I=>some I
def zkt (l:xr4):Option Int:=
 (zld l zvo (zkw l)).bind fun I=>some I
def zor (l:xr4) (I:List Int):(Int×Nat)->Option ((Int×Nat)⊕(Int⊕Int))
 |(U,aa)=>if(aa:Int)<(I.length:Int)then((I[aa]?).bind fun ab=>if U<0 then(some (.inr (.inl ((-1)))))else(if ab<0 then(some (.inr (.inl ((-1)))))else(if(l.Names.length:Int)<=ab then(some (.inr (.inl ((-1)))))else((zle l U ab).bind fun ad=>some (.inl (ad,(aa+1)))))))else(some (.inr (.inr (U))))
def zta (l:xr4) (I:List Int):Option Int:=
 (zkt l).bind fun U=>(loop (zor l I) (U,0)).bind (fun aa=>match aa with|(.inl ab)=>some ab|(.inr ad)=>some ad)
end
theorem zky {s:List xr7} {f:(xr7->Option Bool)} {r:Int}
  {f_f:FuncId} {f_c:List C} (ab:Clo f_c) (ad:∀(x0:xr7) (r:Bool),f x0=some r->Pu Tryz.prog f_f ([.agg (xr0 x0)]++f_c.map V.one) (.one (.bool r))) (h:zci s f=some r):
  Pu Tryz.prog 124 [.one (.sl (s.map xr0)),.one (.fn f_f f_c)] (.one (.int .i64 r)):=by
 have F:=trivial;have R:=trivial
 refine pA Tryz.func124 ?_;simp only[Tryz.f124];unfold zci at h
 have F:=And.intro ab.all F
 refine bi h fun ai h ae=>?_;refine tr ?_;intros
 refine lX ae (fun|U,_=>⟨[(0,.one (.sl (s.map xr0))),(1,.one (.fn f_f f_c)),(7,.one (.int .i64 (s.length:Int))),(8,.one (.int .i64 (U:Int)))],[]⟩) (fun|(.inl al),_=>⟨[],[]⟩|(.inr ()),_=>⟨[],[]⟩) (fun|(.inl _)=>none|(.inr _)=>some 0) ?_ ?_
 intro i3 b3 aa
 rcases ai with aj|⟨⟩
 cases aa;obtain rfl:=Option.some.inj aa;obtain⟨⟩:=b3;dsimp only at h|-;cases h;exact fin;intro af3 m3 U a3 o3 I ho3 ih3;obtain⟨⟩:=a3;dsimp only[zb5]at I|-;refine fl I F ?_ ?_<;>intro I _ F;refine bx I F fun an I ak F=>?_;refine bi I fun ao I af=>?_;refine tr ?_;intros;refine cS (ad _ _ af) ?_;refine fv I F ?_ ?_<;>intro I _ F;cases I;obtain rfl:=sr ho3
 try dsimp only at h
 cases h;exact fin;cases I;refine tt ?_;refine wn U F fun F=>?_;exact bk ih3 ho3 ();cases I;refine tt ?_;exact xt ho3 af3 ()
theorem zqu {c0:(xr7->Option Str)} {c1:Str} {x:xr7} {r:Bool}
  {c0_f:FuncId} {c0_c:List C} (I:Clo c0_c) (U:∀(x0:xr7) (r:Str),c0 x0=some r->Pu Tryz.prog c0_f ([.agg (xr0 x0)]++c0_c.map V.one) (.one (.str r))) (h:zh8 c0 c1 x=some r):
  Pu Tryz.prog 125 [.agg (xr0 x),.one (.iptr [.fn c0_f c0_c] 0),.one (.iptr (eS c1) 0)] (.one (.bool r)):=by
 have F:=trivial;have R:=trivial
 refine pA Tryz.func125 ?_;simp only[Tryz.f125];unfold zh8 at h
 have F:=And.intro I.all F
 refine bi h fun ab h aa=>?_;refine tr ?_;intros;refine cD (U _ _ aa) ?_;cases h;exact fin
theorem ztf {l:List xr7} {name:Str} {of:(xr7->Option Str)} {r:Int}
  {of_f:FuncId} {of_c:List C} (I:Clo of_c) (U:∀(x0:xr7) (r:Str),of x0=some r->Pu Tryz.prog of_f ([.agg (xr0 x0)]++of_c.map V.one) (.one (.str r))) (h:zju l name of=some r):
  Pu Tryz.prog 90 [.one (.sl (l.map xr0)),.one (.str name),.one (.fn of_f of_c)] (.one (.int .i64 r)):=by
 have F:=trivial;have R:=trivial
 refine pA Tryz.func90 ?_;simp only[Tryz.f90];unfold zju at h
 have F:=And.intro I.all F
 refine bi h fun ab h aa=>?_;refine tr ?_;intros;refine cS (zky (f_f:=125) (f_c:=[.iptr [.fn of_f of_c] 0,.iptr [.str name] 0]) clo (fun _ r h=>zqu (c0_f:=of_f) (c0_c:=of_c) I U h) aa) ?_;cases h;exact fin
theorem zzz {v:xr7} {r:Str} (h:zqw v=some r):
  Pu Tryz.prog 91 [.agg (xr0 v)] (.one (.str r)):=by
 have F:=trivial;have R:=trivial
 refine pA Tryz.func91 ?_;simp only[Tryz.f91];unfold zqw at h;cases h;exact fin
theorem zk8 {p:xrw} {name:Str} {r:Int} (h:zks p name=some r):
  Pu Tryz.prog 60 [.agg (xr5 p),.one (.str name)] (.one (.int .i64 r)):=by
 have F:=trivial;have R:=trivial
 refine pA Tryz.func60 ?_;simp only[Tryz.f60];unfold zks at h;refine bi h fun U h I=>?_;refine tr ?_;intros;refine cS (ztf (of_f:=91) (of_c:=[]) clo (fun _ r h=>zzz h) I) ?_;cases h;exact fin
theorem zjy {s:List xr9} {f:(xr9->Option Bool)} {r:Int}
  {f_f:FuncId} {f_c:List C} (ab:Clo f_c) (ad:∀(x0:xr9) (r:Bool),f x0=some r->Pu Tryz.prog f_f ([.agg (xr1 x0)]++f_c.map V.one) (.one (.bool r))) (h:zb2 s f=some r):
  Pu Tryz.prog 127 [.one (.sl (s.map xr1)),.one (.fn f_f f_c)] (.one (.int .i64 r)):=by
 have F:=trivial;have R:=trivial
 refine pA Tryz.func127 ?_;simp only[Tryz.f127];unfold zb2 at h
 have F:=And.intro ab.all F
 refine bi h fun ai h ae=>?_;refine tr ?_;intros
 refine lX ae (fun|U,_=>⟨[(0,.one (.sl (s.map xr1))),(1,.one (.fn f_f f_c)),(7,.one (.int .i64 (s.length:Int))),(8,.one (.int .i64 (U:Int)))],[]⟩) (fun|(.inl al),_=>⟨[],[]⟩|(.inr ()),_=>⟨[],[]⟩) (fun|(.inl _)=>none|(.inr _)=>some 0) ?_ ?_
 intro i3 b3 aa
 rcases ai with aj|⟨⟩
 cases aa;obtain rfl:=Option.some.inj aa;obtain⟨⟩:=b3;dsimp only at h|-;cases h;exact fin;intro af3 m3 U a3 o3 I ho3 ih3;obtain⟨⟩:=a3;dsimp only[zbr]at I|-;refine fl I F ?_ ?_<;>intro I _ F;refine bx I F fun an I ak F=>?_;refine bi I fun ao I af=>?_;refine tr ?_;intros;refine cS (ad _ _ af) ?_;refine fv I F ?_ ?_<;>intro I _ F;cases I;obtain rfl:=sr ho3
 try dsimp only at h
 cases h;exact fin;cases I;refine tt ?_;refine wn U F fun F=>?_;exact bk ih3 ho3 ();cases I;refine tt ?_;exact xt ho3 af3 ()
theorem zoz {c0:(xr9->Option Str)} {c1:Str} {x:xr9} {r:Bool}
  {c0_f:FuncId} {c0_c:List C} (I:Clo c0_c) (U:∀(x0:xr9) (r:Str),c0 x0=some r->Pu Tryz.prog c0_f ([.agg (xr1 x0)]++c0_c.map V.one) (.one (.str r))) (h:zg9 c0 c1 x=some r):
  Pu Tryz.prog 128 [.agg (xr1 x),.one (.iptr [.fn c0_f c0_c] 0),.one (.iptr (eS c1) 0)] (.one (.bool r)):=by
 have F:=trivial;have R:=trivial
 refine pA Tryz.func128 ?_;simp only[Tryz.f128];unfold zg9 at h
 have F:=And.intro I.all F
 refine bi h fun ab h aa=>?_;refine tr ?_;intros;refine cD (U _ _ aa) ?_;cases h;exact fin
theorem zqv {l:List xr9} {name:Str} {of:(xr9->Option Str)} {r:Int}
  {of_f:FuncId} {of_c:List C} (I:Clo of_c) (U:∀(x0:xr9) (r:Str),of x0=some r->Pu Tryz.prog of_f ([.agg (xr1 x0)]++of_c.map V.one) (.one (.str r))) (h:zh9 l name of=some r):
  Pu Tryz.prog 93 [.one (.sl (l.map xr1)),.one (.str name),.one (.fn of_f of_c)] (.one (.int .i64 r)):=by
 have F:=trivial;have R:=trivial
 refine pA Tryz.func93 ?_;simp only[Tryz.f93];unfold zh9 at h
 have F:=And.intro I.all F
 refine bi h fun ab h aa=>?_;refine tr ?_;intros;refine cS (zjy (f_f:=128) (f_c:=[.iptr [.fn of_f of_c] 0,.iptr [.str name] 0]) clo (fun _ r h=>zoz (c0_f:=of_f) (c0_c:=of_c) I U h) aa) ?_;cases h;exact fin
theorem zx9 {b:xr9} {r:Str} (h:znp b=some r):
  Pu Tryz.prog 94 [.agg (xr1 b)] (.one (.str r)):=by
 have F:=trivial;have R:=trivial
 refine pA Tryz.func94 ?_;simp only[Tryz.f94];unfold znp at h;cases h;exact fin
theorem zo0 {p:xrw} {name:Str} {r:Int} (h:zk0 p name=some r):
  Pu Tryz.prog 62 [.agg (xr5 p),.one (.str name)] (.one (.int .i64 r)):=by
 have F:=trivial;have R:=trivial
 refine pA Tryz.func62 ?_;simp only[Tryz.f62];unfold zk0 at h;refine bi h fun U h I=>?_;refine tr ?_;intros;refine cS (zqv (of_f:=94) (of_c:=[]) clo (fun _ r h=>zx9 h) I) ?_;cases h;exact fin
theorem zkj {s:List xsb} {f:(xsb->Option Bool)} {r:Int}
  {f_f:FuncId} {f_c:List C} (ab:Clo f_c) (ad:∀(x0:xsb) (r:Bool),f x0=some r->Pu Tryz.prog f_f ([.agg (xrz x0)]++f_c.map V.one) (.one (.bool r))) (h:zca s f=some r):
  Pu Tryz.prog 142 [.one (.sl (s.map xrz)),.one (.fn f_f f_c)] (.one (.int .i64 r)):=by
 have F:=trivial;have R:=trivial
 refine pA Tryz.func142 ?_;simp only[Tryz.f142];unfold zca at h
 have F:=And.intro ab.all F
 refine bi h fun ai h ae=>?_;refine tr ?_;intros
 refine lX ae (fun|U,_=>⟨[(0,.one (.sl (s.map xrz))),(1,.one (.fn f_f f_c)),(7,.one (.int .i64 (s.length:Int))),(8,.one (.int .i64 (U:Int)))],[]⟩) (fun|(.inl al),_=>⟨[],[]⟩|(.inr ()),_=>⟨[],[]⟩) (fun|(.inl _)=>none|(.inr _)=>some 0) ?_ ?_
 intro i3 b3 aa
 rcases ai with aj|⟨⟩
 cases aa;obtain rfl:=Option.some.inj aa;obtain⟨⟩:=b3;dsimp only at h|-;cases h;exact fin;intro af3 m3 U a3 o3 I ho3 ih3;obtain⟨⟩:=a3;dsimp only[zbv]at I|-;refine fl I F ?_ ?_<;>intro I _ F;refine bx I F fun an I ak F=>?_;refine bi I fun ao I af=>?_;refine tr ?_;intros;refine cS (ad _ _ af) ?_;refine fv I F ?_ ?_<;>intro I _ F;cases I;obtain rfl:=sr ho3
 try dsimp only at h
 cases h;exact fin;cases I;refine tt ?_;refine wn U F fun F=>?_;exact bk ih3 ho3 ();cases I;refine tt ?_;exact xt ho3 af3 ()
theorem zpw {c0:(xsb->Option Str)} {c1:Str} {x:xsb} {r:Bool}
  {c0_f:FuncId} {c0_c:List C} (I:Clo c0_c) (U:∀(x0:xsb) (r:Str),c0 x0=some r->Pu Tryz.prog c0_f ([.agg (xrz x0)]++c0_c.map V.one) (.one (.str r))) (h:zhy c0 c1 x=some r):
  Pu Tryz.prog 143 [.agg (xrz x),.one (.iptr [.fn c0_f c0_c] 0),.one (.iptr (eS c1) 0)] (.one (.bool r)):=by
 have F:=trivial;have R:=trivial
 refine pA Tryz.func143 ?_;simp only[Tryz.f143];unfold zhy at h
 have F:=And.intro I.all F
 refine bi h fun ab h aa=>?_;refine tr ?_;intros;refine cD (U _ _ aa) ?_;cases h;exact fin
theorem zsc {l:List xsb} {name:Str} {of:(xsb->Option Str)} {r:Int}
  {of_f:FuncId} {of_c:List C} (I:Clo of_c) (U:∀(x0:xsb) (r:Str),of x0=some r->Pu Tryz.prog of_f ([.agg (xrz x0)]++of_c.map V.one) (.one (.str r))) (h:zil l name of=some r):
  Pu Tryz.prog 98 [.one (.sl (l.map xrz)),.one (.str name),.one (.fn of_f of_c)] (.one (.int .i64 r)):=by
 have F:=trivial;have R:=trivial
 refine pA Tryz.func98 ?_;simp only[Tryz.f98];unfold zil at h
 have F:=And.intro I.all F
 refine bi h fun ab h aa=>?_;refine tr ?_;intros;refine cS (zkj (f_f:=143) (f_c:=[.iptr [.fn of_f of_c] 0,.iptr [.str name] 0]) clo (fun _ r h=>zpw (c0_f:=of_f) (c0_c:=of_c) I U h) aa) ?_;cases h;exact fin
theorem zy6 {s:xsb} {r:Str} (h:zot s=some r):
  Pu Tryz.prog 99 [.agg (xrz s)] (.one (.str r)):=by
 have F:=trivial;have R:=trivial
 refine pA Tryz.func99 ?_;simp only[Tryz.f99];unfold zot at h;cases h;exact fin
theorem zqx {p:xrw} {name:Str} {r:Int} (h:zme p name=some r):
  Pu Tryz.prog 64 [.agg (xr5 p),.one (.str name)] (.one (.int .i64 r)):=by
 have F:=trivial;have R:=trivial
 refine pA Tryz.func64 ?_;simp only[Tryz.f64];unfold zme at h;refine bi h fun U h I=>?_;refine tr ?_;intros;refine cS (zsc (of_f:=99) (of_c:=[]) clo (fun _ r h=>zy6 h) I) ?_;cases h;exact fin
theorem zlw {l:xr4} {a:Int} {r:Bool} (h:zke l a=some r):
  Pu Tryz.prog 169 [.agg (xsf l),.one (.int .i64 a)] (.one (.bool r)):=by
 have F:=trivial;have R:=trivial
 refine pA Tryz.func169 ?_;simp only[Tryz.f169];unfold zke at h;refine fi h F ?_ ?_<;>intro h _ F;cases h;exact fin;cases h;exact fin
theorem znd {l:xr4} {a:Int} {r:List Bool} (h:zi8 l a=some r):
  Pu Tryz.prog 170 [.agg (xsf l),.one (.int .i64 a)] (.one (.sl (r.map eB))):=by
 have F:=trivial;have R:=trivial
 refine pA Tryz.func170 ?_;simp only[Tryz.f170];unfold zi8 at h;refine nd h F fun h F=>?_
 have R:=And.intro (show List.replicate l.Names.length [.bool false]=List.map eB (List.replicate l.Names.length false) by simp[go_sem]) R
 refine by_ h F fun a4 h aX F=>?_;refine ln F fun F=>?_
 have R:=And.intro (show(List.map eB (List.replicate l.Names.length false)).set a.toNat [.bool true]=List.map eB ((List.replicate l.Names.length false).set a.toNat true) by simp[go_sem,List.map_set]) R
 refine bi h fun aO h aK=>?_;refine tr ?_;intros
 refine lE (fun(az:(List Bool)×(List Int)) (aA:Nat×(List Int))=>match az,aA with|(au,aa),(ax,U)=>⟨[(2,.one (.ref 0 0 0 0)),(5,.one (.msl 1 0 0 au.length)),(6,.one (.msl 2 ax U.length (U.length+aa.length)))],[.cells 0 2 [[.sl (l.Names.map eS),.sl (l.Below.map (eA2 eI))]],.cells 0 1 (au.map eB),.cells ax 1 ((U++aa).map eI)]⟩) (fun(aB:(List Bool)×(List Int)) (aC:Nat×(List Int))=>match aB,aC with|(an,ar),(aD,ay)=>⟨[(5,.one (.msl 1 0 0 an.length))],[.cells 0 2 [[.sl (l.Names.map eS),.sl (l.Below.map (eA2 eI))]],.cells 0 1 (an.map eB),.cells aD 1 ((ay++ar).map eI)]⟩) (fun(_:(List Bool)×(List Int))=>some 0) (0,([]:List Int)) aK ?_ ?_
 intro i8 b8 aP;obtain rfl:=Option.some.inj aP;obtain⟨an,ar⟩:=aO;obtain⟨aD,ay⟩:=b8;dsimp only at h|-;cases h;exact fin;intro aQ m8 s8 a8 o8 ad aI aR;obtain⟨au,aa⟩:=s8;obtain⟨ax,U⟩:=a8;dsimp only[zjb]at ad|-;refine tr ?_;intros;refine fi ad F ?_ ?_<;>intro ad _ F;refine bx ad F fun aJ ad aE F=>?_
 have R:=And.intro (show(U++aa)[U.length]? =some aJ from ypg aE) (And.intro (show U.length<(U++aa).length from q_lt aE) R)
 refine nd ad F fun ad F=>?_
 have R:=And.intro (show List.drop (U.length+1) (List.map eI (U++aa))=List.map eI (aa.drop 1)from ykf _ _ _ _) R
 refine bi ad fun aL ad aG=>?_;refine tr ?_;intros
 refine lE (fun(az:(List Bool)×(List Int)×Nat) (aA:Nat×(List Int))=>match az,aA with|(ae,aj,ak),(af,ab)=>⟨[(2,.one (.ref 0 0 0 0)),(5,.one (.msl 1 0 0 ae.length)),(6,.one (.msl 2 af ab.length (ab.length+aj.length))),(7,.one (.int .i64 aJ)),(28,.one (.sl (l.Below.map (eA2 eI)))),(29,.one (.int .i64 (l.Below.length:Int))),(30,.one (.int .i64 (ak:Int)))],[.cells 0 2 [[.sl (l.Names.map eS),.sl (l.Below.map (eA2 eI))]],.cells 0 1 (ae.map eB),.cells af 1 ((ab++aj).map eI)]⟩) (fun(aB:(List Bool)×(List Int)) (aC:Nat×(List Int))=>match aB,aC with|(ao,al),(av,ai)=>⟨[(2,.one (.ref 0 0 0 0)),(5,.one (.msl 1 0 0 ao.length)),(6,.one (.msl 2 av ai.length (ai.length+al.length)))],[.cells 0 2 [[.sl (l.Names.map eS),.sl (l.Below.map (eA2 eI))]],.cells 0 1 (ao.map eB),.cells av 1 ((ai++al).map eI)]⟩) (fun(_:(List Bool)×(List Int))=>some 2) (ax,(U++aa.take 1)) aG ?_ ?_
 intro i19 aS aM;obtain rfl:=Option.some.inj aM;obtain⟨ao,al⟩:=aL;obtain⟨av,ai⟩:=aS;dsimp only at ad|-;cases ad;refine tt ?_;exact bk aR aI (av,ai);intro aN a5 aT aU a6 I aq aw;obtain⟨ae,aj,ak⟩:=aT;obtain⟨af,ab⟩:=aU;dsimp only[zja]at I|-;refine fl I F ?_ ?_<;>intro I _ F;refine bx I F fun aF I aV F=>?_;refine tr ?_;intros;refine fi I F ?_ ?_<;>intro I _ F;refine bi I fun aY I aH=>?_
 refine tr ?_;intros;refine cS (zlw aH) ?_;refine fv I F ?_ ?_<;>intro I _ F;refine by_ I F fun aZ I aW F=>?_;refine tr ?_;intros;refine fv I F ?_ ?_<;>intro I _ F;cases I;refine tt ?_;refine wn ak F fun F=>?_;exact bk aw aq (af,ab)
 have R:=And.intro (show(List.map eB ae).set aF.a1.toNat [.bool true]=List.map eB (ae.set aF.a1.toNat true) by simp[go_sem,List.map_set]) R
 refine nd I F fun I F=>?_;cases I;refine tr ?_;intros;refine wn ak F fun F=>?_;exact bk aw aq ((af+1),[]);cases I;refine tt ?_;refine wn ak F fun F=>?_;exact bk aw aq (af,ab);cases I;refine tt ?_;refine wn ak F fun F=>?_;exact bk aw aq (af,ab);cases I;refine tt ?_;exact xt aq aN (af,ab);cases ad;refine tt ?_;exact xt aI aQ (ax,U)
theorem zt0 {l:xr4} {of:(Int->Option Bool)} {ahead:(Int->Int->Option Bool)} {r:Int}
  {of_f:FuncId} {of_c:List C} (aj:Clo of_c) (ae:∀(x0:Int) (r:Bool),of x0=some r->Pu Tryz.prog of_f ([.one (.int .i64 x0)]++of_c.map V.one) (.one (.bool r)))
  {ahead_f:FuncId} {ahead_c:List C} (ab:Clo ahead_c) (ad:∀(x0:Int) (x1:Int) (r:Bool),ahead x0 x1=some r->Pu Tryz.prog ahead_f ([.one (.int .i64 x0),.one (.int .i64 x1)]++ahead_c.map V.one) (.one (.bool r))) (h:zld l of ahead=some r):
  Pu Tryz.prog 171 [.agg (xsf l),.one (.fn of_f of_c),.one (.fn ahead_f ahead_c)] (.one (.int .i64 r)):=by
 have F:=trivial;have R:=trivial
 refine pA Tryz.func171 ?_;simp only[Tryz.f171];unfold zld at h
 have F:=And.intro aj.all F
 have F:=And.intro ab.all F
 refine bi h fun ax h aq=>?_;refine tr ?_;intros
 refine lX aq (fun|aa,_=>⟨[(1,.one (.fn of_f of_c)),(2,.one (.fn ahead_f ahead_c)),(3,.one (.ref 0 0 0 0)),(11,.one (.int .i64 (l.Names.length:Int))),(12,.one (.int .i64 (aa:Int)))],[.cells 0 2 [[.sl (l.Names.map eS),.sl (l.Below.map (eA2 eI))]]]⟩) (fun|(.inl aA),_=>⟨[],[]⟩|(.inr ()),_=>⟨[],[.cells 0 2 [[.sl (l.Names.map eS),.sl (l.Below.map (eA2 eI))]]]⟩) (fun|(.inl _)=>none|(.inr _)=>some 0) ?_ ?_
 intro i3 b3 ak
 rcases ax with ay|⟨⟩
 cases ak;obtain rfl:=Option.some.inj ak;obtain⟨⟩:=b3;dsimp only at h|-;cases h;exact fin;intro af3 m3 aa a3 o3 I ho3 ih3;obtain⟨⟩:=a3;dsimp only[zka]at I|-;refine fl I F ?_ ?_<;>intro I _ F;refine bi I fun aB I ar=>?_;refine tr ?_;intros;refine cS (ae _ _ ar) ?_;refine fv I F ?_ ?_<;>intro I _ F;refine bi I fun az I au=>?_;refine tr ?_;intros
 refine lX au (fun|af,_=>⟨[(1,.one (.fn of_f of_c)),(2,.one (.fn ahead_f ahead_c)),(3,.one (.ref 0 0 0 0)),(7,.one (.int .i64 (aa:Int))),(11,.one (.int .i64 (l.Names.length:Int))),(12,.one (.int .i64 (aa:Int))),(21,.one (.int .i64 (l.Names.length:Int))),(22,.one (.int .i64 (af:Int)))],[.cells 0 2 [[.sl (l.Names.map eS),.sl (l.Below.map (eA2 eI))]]]⟩) (fun|(.inl ()),_=>⟨[(1,.one (.fn of_f of_c)),(2,.one (.fn ahead_f ahead_c)),(3,.one (.ref 0 0 0 0)),(11,.one (.int .i64 (l.Names.length:Int))),(12,.one (.int .i64 (aa:Int)))],[.cells 0 2 [[.sl (l.Names.map eS),.sl (l.Below.map (eA2 eI))]]]⟩|(.inr ()),_=>⟨[(7,.one (.int .i64 (aa:Int)))],[.cells 0 2 [[.sl (l.Names.map eS),.sl (l.Below.map (eA2 eI))]]]⟩) (fun|(.inl _)=>some 1|(.inr _)=>some 2) ?_ ?_
 intro i7 b7 al
 rcases az with⟨⟩|⟨⟩
 obtain rfl:=Option.some.inj al;obtain⟨⟩:=b7;dsimp only at I|-;cases I;refine tt ?_;refine wn aa F fun F=>?_;exact bk ih3 ho3 ();obtain rfl:=Option.some.inj al;obtain⟨⟩:=b7;dsimp only at I|-;cases I;obtain rfl:=sr ho3
 try dsimp only at h
 cases h;exact fin;intro an m7 af a7 o7 U ai ao;obtain⟨⟩:=a7;dsimp only[zid]at U|-;refine fl U F ?_ ?_<;>intro U _ F;refine bi U fun aC U av=>?_;refine tr ?_;intros;refine cS (ae _ _ av) ?_;refine fv U F ?_ ?_<;>intro U _ F;refine bi U fun aD U aw=>?_;refine tr ?_;intros;refine cS (ad _ _ _ aw) ?_;refine fv U F ?_ ?_<;>intro U _ F;cases U;refine tt ?_;refine wn af F fun F=>?_;exact bk ao ai ()
 cases U;refine tt ?_;exact xt ai an ();cases U;refine tt ?_;refine wn af F fun F=>?_;exact bk ao ai ();cases U;refine tt ?_;exact xt ai an ();cases I;refine tt ?_;refine wn aa F fun F=>?_;exact bk ih3 ho3 ();cases I;refine tt ?_;exact xt ho3 af3 ()
theorem zw9 {I:List Bool} {c1:List Bool} {c:Int} {r:Bool} (h:zmr I c1 c=some r):
  Pu Tryz.prog 172 [.one (.int .i64 c),.one (.iptr ((eL eB) I) 0),.one (.iptr ((eL eB) c1) 0)] (.one (.bool r)):=by
 have F:=trivial;have R:=trivial
 refine pA Tryz.func172 ?_;simp only[Tryz.f172];unfold zmr at h;refine by_ h F fun ab h U F=>?_;refine tr ?_;intros;refine fv h F ?_ ?_<;>intro h _ F;refine by_ h F fun ad h aa F=>?_;cases h;exact fin;cases h;exact fin
theorem zu7 {l:xr4} {a:Int} {b:Int} {r:Bool} (h:zmh l a b=some r):
  Pu Tryz.prog 174 [.agg (xsf l),.one (.int .i64 a),.one (.int .i64 b)] (.one (.bool r)):=by
 have F:=trivial;have R:=trivial
 refine pA Tryz.func174 ?_;simp only[Tryz.f174];unfold zmh at h;refine bi h fun ad h I=>?_;refine tr ?_;intros;refine cS (zlw I) ?_;refine fv h F ?_ ?_<;>intro h _ F;refine bi h fun ae h U=>?_;refine tr ?_;intros;refine cS (zlw U) ?_;refine fv h F ?_ ?_<;>intro h _ F;refine bi h fun af h aa=>?_;refine tr ?_;intros;refine cS (znd aa) ?_;refine by_ h F fun ai h ab F=>?_;cases h;exact fin
 cases h;exact fin;cases h;exact fin
theorem zw8 {U:xr4} {c:Int} {d:Int} {r:Bool} (h:zmq U c d=some r):
  Pu Tryz.prog 173 [.one (.int .i64 c),.one (.int .i64 d),.one (.iptr (xsf U) 0)] (.one (.bool r)):=by
 have F:=trivial;have R:=trivial
 refine pA Tryz.func173 ?_;simp only[Tryz.f173];unfold zmq at h;refine bi h fun aa h I=>?_;refine tr ?_;intros;refine cS (zu7 I) ?_;cases h;exact fin
theorem zt1 {l:xr4} {a:Int} {b:Int} {r:Int} (h:zle l a b=some r):
  Pu Tryz.prog 148 [.agg (xsf l),.one (.int .i64 a),.one (.int .i64 b)] (.one (.int .i64 r)):=by
 have F:=trivial;have R:=trivial
 refine pA Tryz.func148 ?_;simp only[Tryz.f148];unfold zle at h;refine bi h fun ai h I=>?_;refine tr ?_;intros;refine cS (zlw I) ?_;refine fv h F ?_ ?_<;>intro h _ F;refine bi h fun aj h U=>?_;refine tr ?_;intros;refine cS (zlw U) ?_;refine fv h F ?_ ?_<;>intro h _ F;refine bi h fun ae h aa=>?_;refine tr ?_;intros;refine cD (znd aa) ?_;refine bi h fun af h ab=>?_;refine tr ?_;intros;refine cD (znd ab) ?_
 refine bi h fun ak h ad=>?_;refine tr ?_;intros;refine cS (zt0 (of_f:=172) (of_c:=[.iptr [.sl (ae.map eB)] 0,.iptr [.sl (af.map eB)] 0]) clo (fun _ r h=>zw9 h) (ahead_f:=173) (ahead_c:=[.iptr [.sl (l.Names.map eS),.sl (l.Below.map (eA2 eI))] 0]) clo (fun _ _ r h=>zw8 h) ad) ?_;cases h;exact fin;cases h;exact fin;cases h;exact fin
theorem zyc {d:flow_desk} {labels:List Int} {r:List Int} (h:znr d labels=some r):
  Pu Tryz.prog 175 [.agg (zao d),.one (.sl (labels.map eI))] (.one (.sl (r.map eI))):=by
 have F:=trivial;have R:=trivial
 refine pA Tryz.func175 ?_;simp only[Tryz.f175];unfold znr at h;refine bi h fun aj h ay=>?_;refine tr ?_;intros;refine zyx 5 1 (by simp[go_sem]) ?_
 refine lE (fun(ak:(List Int)×Nat) (al:Nat)=>match ak,al with|(an,ai),ab=>⟨[(1,.one (.sl (labels.map eI))),(2,.one (.ref 0 0 0 0)),(5,.one (.msl 1 ab 0 an.length)),(17,.one (.int .i64 (w64 ((d.p.Vars.length:Int)+(d.p.Blocks.length:Int))))),(18,.one (.int .i64 (ai:Int)))],[.cells 0 6 [[.sl (d.p.Lattice.Names.map eS),.sl (d.p.Lattice.Below.map (eA2 eI)),.sl (d.p.Sites.map xrz),.sl (d.p.Vars.map xr0),.sl (d.p.Blocks.map xr1),.sl (d.p.Tasks.map xr2)]],.cells ab 1 (an.map eI)]⟩) (fun(ao:List Int) (aq:Nat)=>match ao,aq with|aj,b6=>⟨[(2,.one (.ref 0 0 0 0)),(5,.one (.msl 1 b6 0 aj.length))],[.cells 0 6 [[.sl (d.p.Lattice.Names.map eS),.sl (d.p.Lattice.Below.map (eA2 eI)),.sl (d.p.Sites.map xrz),.sl (d.p.Vars.map xr0),.sl (d.p.Blocks.map xr1),.sl (d.p.Tasks.map xr2)]],.cells b6 1 (aj.map eI)]⟩) (fun(_:List Int)=>some 0) 0 ay ?_ ?_
 intro i6 b6 aC;obtain rfl:=Option.some.inj aC;dsimp only at h|-;refine bi h fun ad h aw=>?_;refine tr ?_;intros
 refine lE (fun(ak:(List Int)×Nat) (al:Nat)=>match ak,al with|(ae,af),aa=>⟨[(5,.one (.msl 1 aa 0 ae.length)),(38,.one (.sl (d.p.Sites.map xrz))),(39,.one (.int .i64 (d.p.Sites.length:Int))),(40,.one (.int .i64 (af:Int)))],[.cells 0 6 [[.sl (d.p.Lattice.Names.map eS),.sl (d.p.Lattice.Below.map (eA2 eI)),.sl (d.p.Sites.map xrz),.sl (d.p.Vars.map xr0),.sl (d.p.Blocks.map xr1),.sl (d.p.Tasks.map xr2)]],.cells aa 1 (ae.map eI)]⟩) (fun(ao:List Int) (aq:Nat)=>match ao,aq with|ad,ar=>⟨[(5,.one (.msl 1 ar 0 ad.length))],[.cells 0 6 [[.sl (d.p.Lattice.Names.map eS),.sl (d.p.Lattice.Below.map (eA2 eI)),.sl (d.p.Sites.map xrz),.sl (d.p.Vars.map xr0),.sl (d.p.Blocks.map xr1),.sl (d.p.Tasks.map xr2)]],.cells ar 1 (ad.map eI)]⟩) (fun(_:List Int)=>some 2) b6 aw ?_ ?_
 intro i16 ar az;obtain rfl:=Option.some.inj az;dsimp only at h|-;cases h;exact fin;intro aA aI aD aa aJ U au aB;obtain⟨ae,af⟩:=aD;dsimp only[zr8]at U|-;refine fl U F ?_ ?_<;>intro U _ F;refine bx U F fun aG U aF F=>?_;refine nd U F fun U F=>?_;cases U;refine tr ?_;intros;refine wn af F fun F=>?_;exact bk aB au (aa+1);cases U;refine tt ?_;exact xt au aA aa;intro aE m6 s6 ab o6 I av ax
 obtain⟨an,ai⟩:=s6;dsimp only[zr9]at I|-;refine fi I F ?_ ?_<;>intro I _ F;refine tr ?_;intros;refine fl I F ?_ ?_<;>intro I _ F;refine bx I F fun aK I aH F=>?_;refine nd I F fun I F=>?_;cases I;refine tr ?_;intros
 have F:=And.intro (z0t ((d.p.Vars.length:Int)+(d.p.Blocks.length:Int))) F
 refine wn ai F fun F=>?_;exact bk ax av (ab+1);refine nd I F fun I F=>?_;cases I;refine tr ?_;intros
 have F:=And.intro (z0t ((d.p.Vars.length:Int)+(d.p.Blocks.length:Int))) F
 refine wn ai F fun F=>?_;exact bk ax av (ab+1);cases I;refine tt ?_;exact xt av aE ab
theorem zwf {d:flow_desk} {name:Str} {r:Int} (h:zly d name=some r):
  Pu Tryz.prog 203 [.agg (zao d),.one (.str name)] (.one (.int .i64 r)):=by
 have F:=trivial;have R:=trivial
 refine pA Tryz.func203 ?_;simp only[Tryz.f203];unfold zly at h;refine bi h fun U h I=>?_;refine tr ?_;intros;refine cD (zo0 I) ?_;cases h;exact fin
theorem zzk {d:flow_desk} {name:Str} {r:Int} (h:zou d name=some r):
  Pu Tryz.prog 204 [.agg (zao d),.one (.str name)] (.one (.int .i64 r)):=by
 have F:=trivial;have R:=trivial
 refine pA Tryz.func204 ?_;simp only[Tryz.f204];unfold zou at h;refine bi h fun U h I=>?_;refine tr ?_;intros;refine cD (zqx I) ?_;cases h;exact fin
theorem zz2 {p0:Int} {r:Bool} (h:zvo p0=some r):
  Pu Tryz.prog 205 [.one (.int .i64 p0)] (.one (.bool r)):=by
 have F:=trivial;have R:=trivial
 refine pA Tryz.func205 ?_;simp only[Tryz.f205];unfold zvo at h;cases h;exact fin
theorem zvp {U:xr4} {c:Int} {d:Int} {r:Bool} (h:zkw U c d=some r):
  Pu Tryz.prog 206 [.one (.int .i64 c),.one (.int .i64 d),.one (.iptr (xsf U) 0)] (.one (.bool r)):=by
 have F:=trivial;have R:=trivial
 refine pA Tryz.func206 ?_;simp only[Tryz.f206];unfold zkw at h;refine bi h fun aa h I=>?_;refine tr ?_;intros;refine cS (zu7 I) ?_;cases h;exact fin
theorem zxa {l:xr4} {r:Int} (h:zkt l=some r):
  Pu Tryz.prog 195 [.agg (xsf l)] (.one (.int .i64 r)):=by
 have F:=trivial;have R:=trivial
 refine pA Tryz.func195 ?_;simp only[Tryz.f195];unfold zkt at h;refine bi h fun U h I=>?_;refine tr ?_;intros;refine cS (zt0 (of_f:=205) (of_c:=[]) clo (fun _ r h=>zz2 h) (ahead_f:=206) (ahead_c:=[.iptr [.sl (l.Names.map eS),.sl (l.Below.map (eA2 eI))] 0]) clo (fun _ _ r h=>zvp h) I) ?_;cases h;exact fin
theorem z2c {l:xr4} {U:List Int} {r:Int} (h:zta l U=some r):
  Pu Tryz.prog 177 [.agg (xsf l),.one (.sl (U.map eI))] (.one (.int .i64 r)):=by
 have F:=trivial;have R:=trivial
 refine pA Tryz.func177 ?_;simp only[Tryz.f177];unfold zta at h;refine bi h fun au h ai=>?_;refine tr ?_;intros;refine cS (zxa ai) ?_;refine bi h fun al h aj=>?_;refine tr ?_;intros
 refine lX aj (fun|(ad,ab),_=>⟨[(2,.one (.ref 0 0 0 0)),(5,.one (.int .i64 ad)),(10,.one (.sl (U.map eI))),(11,.one (.int .i64 (U.length:Int))),(12,.one (.int .i64 (ab:Int)))],[.cells 0 2 [[.sl (l.Names.map eS),.sl (l.Below.map (eA2 eI))]]]⟩) (fun|(.inl av),_=>⟨[],[]⟩|(.inr ae),_=>⟨[(5,.one (.int .i64 ae))],[.cells 0 2 [[.sl (l.Names.map eS),.sl (l.Below.map (eA2 eI))]]]⟩) (fun|(.inl _)=>none|(.inr _)=>some 0) ?_ ?_
 intro i5 b5 af
 rcases al with an|ae
 cases af;obtain rfl:=Option.some.inj af;obtain⟨⟩:=b5;dsimp only at h|-;cases h;exact fin;intro ao m5 s5 a5 o5 I aa aq;obtain⟨ad,ab⟩:=s5;obtain⟨⟩:=a5;dsimp only[zor]at I|-;refine fl I F ?_ ?_<;>intro I _ F;refine bx I F fun aw I ar F=>?_;refine tr ?_;intros;refine fi I F ?_ ?_<;>intro I _ F;cases I;obtain rfl:=sr aa
 try dsimp only at h
 cases h;exact fin;refine fi I F ?_ ?_<;>intro I _ F;cases I;obtain rfl:=sr aa
 try dsimp only at h
 cases h;exact fin;refine tr ?_;intros;refine fi I F ?_ ?_<;>intro I _ F;cases I;obtain rfl:=sr aa
 try dsimp only at h
 cases h;exact fin;refine bi I fun ax I ak=>?_;refine tr ?_;intros;refine cS (zt1 ak) ?_;cases I;refine tt ?_;refine wn ab F fun F=>?_;exact bk aq aa ();cases I;refine tt ?_;exact xt aa ao ()
end Go.Lz

end
section
namespace Go.Lz
open Go.Proofs
attribute [-go_sem] zmz g_b gd_b
set_option maxRecDepth 100000
set_option maxHeartbeats 4000000
noncomputable section
def zg4 (t:xsc):Option Int:=
 (zbx t).bind fun I=>if I=0 then(some (maxI t.Len 1))else(some 0)
def zeu (kind:Int):Option Int:=
 if kind=1 then(some 1)else(if kind=2 then(some 16)else(if kind=3 then(some 32)else(if kind=4 then(some 32)else(some 0))))
def zmm (t:xsc):Option Int:=
 if(-32768)<=t.Low then((zeu t.Kind).bind fun I=>if I=0 then(some 6)else(if t.Len<0 then(some 6)else(if 32<t.Len then(some 6)else(if t.Low<32768 then(if t.Len=0 then(if t.Low=0 then(some 0)else(some 6))else(some 0))else(some 6)))))else((zeu t.Kind).bind fun U=>if U=0 then(some 6)else(if t.Len<0 then(some 6)else(if 32<t.Len then(some 6)else(some 6))))
def zql (t:xsc):Option Int:=
 (zmm t).bind fun I=>if I=0 then(some (maxI t.Len 1))else(some 0)
def zfb (a:xsg) (b:xsg):Nat->Option ((Nat)⊕(Bool⊕Unit))
 |aa=>if(aa:Int)<(a.Blocks.length:Int)then((a.Blocks[aa]?).bind fun I=>(b.Blocks[aa]?).bind fun U=>if I.a0=U.a0/\I.a1=U.a1/\I.a2=U.a2/\I.a3=U.a3 then(some (.inl (aa+1)))else(some (.inr (.inl (false)))))else(some (.inr (.inr (()))))
def zfc (a:xsg) (b:xsg):Nat->Option ((Nat)⊕(Bool⊕Unit))
 |I=>if(I:Int)<(a.Cells.length:Int)then((a.Cells[I]?).bind fun U=>(b.Cells[I]?).bind fun aa=>(zbj U aa).bind fun ab=>if ab=true then(some (.inl (I+1)))else(some (.inr (.inl (false)))))else(some (.inr (.inr (()))))
def zdl (a:xsg) (b:xsg):Option Bool:=
 if(a.Cells.length:Int)=(b.Cells.length:Int)then(if(a.Blocks.length:Int)=(b.Blocks.length:Int)then((loop (zfc a b) 0).bind (fun I=>match I with|(.inl aa)=>some aa|(.inr ())=>(loop (zfb a b) 0).bind (fun I=>match I with|(.inl U)=>some U|(.inr ())=>some true)))else(some false))else(some false)
end
theorem zs0 {t:xsc} {r:Int} (h:zg4 t=some r):
  Pu Tryz.prog 27 [.agg (xsi t)] (.one (.int .i64 r)):=by
 have F:=trivial;have R:=trivial
 refine pA Tryz.func27 ?_;simp only[Tryz.f27];unfold zg4 at h;refine bi h fun U h I=>?_;refine tr ?_;intros;refine cS (zi6 I) ?_;refine fi h F ?_ ?_<;>intro h _ F;cases h;exact fin;cases h;exact fin
theorem zih {kind:Int} {r:Int} (h:zeu kind=some r):
  Pu Tryz.prog 140 [.one (.int .i64 kind)] (.one (.int .i64 r)):=by
 have F:=trivial;have R:=trivial
 refine pA Tryz.func140 ?_;simp only[Tryz.f140];unfold zeu at h;refine fi h F ?_ ?_<;>intro h _ F;cases h;exact fin;refine fi h F ?_ ?_<;>intro h _ F;cases h;exact fin;refine tt ?_;refine fi h F ?_ ?_<;>intro h _ F;cases h;exact fin;refine fi h F ?_ ?_<;>intro h _ F;cases h;exact fin;cases h;exact fin
theorem zvb {t:xsc} {r:Int} (h:zmm t=some r):
  Pu Tryz.prog 126 [.agg (xsi t)] (.one (.int .i64 r)):=by
 have F:=trivial;have R:=trivial
 refine pA Tryz.func126 ?_;simp only[Tryz.f126];unfold zmm at h;refine fi h F ?_ ?_<;>intro h _ F;refine bi h fun aa h I=>?_;refine tr ?_;intros;refine cS (zih I) ?_;refine fi h F ?_ ?_<;>intro h _ F;cases h;exact fin;refine tt ?_;refine fi h F ?_ ?_<;>intro h _ F;cases h;exact fin;refine fi h F ?_ ?_<;>intro h _ F;cases h;exact fin;refine tt ?_;refine fi h F ?_ ?_<;>intro h _ F;refine fi h F ?_ ?_<;>intro h _ F
 refine tt ?_;refine fi h F ?_ ?_<;>intro h _ F;cases h;exact fin;cases h;exact fin;cases h;exact fin;cases h;exact fin;refine bi h fun ab h U=>?_;refine tr ?_;intros;refine cS (zih U) ?_;refine fi h F ?_ ?_<;>intro h _ F;cases h;exact fin;refine tt ?_;refine fi h F ?_ ?_<;>intro h _ F;cases h;exact fin;refine fi h F ?_ ?_<;>intro h _ F;cases h;exact fin;cases h;exact fin
theorem z1z {t:xsc} {r:Int} (h:zql t=some r):
  Pu Tryz.prog 123 [.agg (xsi t)] (.one (.int .i64 r)):=by
 have F:=trivial;have R:=trivial
 refine pA Tryz.func123 ?_;simp only[Tryz.f123];unfold zql at h;refine bi h fun U h I=>?_;refine tr ?_;intros;refine cS (zvb I) ?_;refine fi h F ?_ ?_<;>intro h _ F;cases h;exact fin;cases h;exact fin
theorem zpy {a:xsg} {b:xsg} {r:Bool} (h:zdl a b=some r):
  Pu Tryz.prog 19 [.agg (xsl a),.agg (xsl b)] (.one (.bool r)):=by
 have F:=trivial;have R:=trivial
 refine pA Tryz.func19 ?_;simp only[Tryz.f19];unfold zdl at h;refine tr ?_;intros;refine fi h F ?_ ?_<;>intro h _ F;refine tr ?_;intros;refine fi h F ?_ ?_<;>intro h _ F;refine bi h fun aq h aj=>?_;refine tt ?_
 refine lX aj (fun|ab,_=>⟨[(2,.one (.ref 0 0 0 0)),(3,.one (.ref 1 0 0 0)),(5,.one (.int .i64 (ab:Int)))],[.cells 0 2 [[.sl (a.Cells.map (eL eI)),.sl (a.Blocks.map (eA4 eI))]],.cells 0 2 [[.sl (b.Cells.map (eL eI)),.sl (b.Blocks.map (eA4 eI))]]]⟩) (fun|(.inl aD),_=>⟨[],[]⟩|(.inr ()),_=>⟨[(2,.one (.ref 0 0 0 0)),(3,.one (.ref 1 0 0 0))],[.cells 0 2 [[.sl (a.Cells.map (eL eI)),.sl (a.Blocks.map (eA4 eI))]],.cells 0 2 [[.sl (b.Cells.map (eL eI)),.sl (b.Blocks.map (eA4 eI))]]]⟩) (fun|(.inl _)=>none|(.inr _)=>some 0) ?_ ?_
 intro i3 b3 ai
 rcases aq with ad|⟨⟩
 cases ai;obtain rfl:=Option.some.inj ai;obtain⟨⟩:=b3;dsimp only at h|-;refine bi h fun ar h ak=>?_;refine tt ?_
 refine lX ak (fun|ae,_=>⟨[(2,.one (.ref 0 0 0 0)),(3,.one (.ref 1 0 0 0)),(6,.one (.int .i64 (ae:Int)))],[.cells 0 2 [[.sl (a.Cells.map (eL eI)),.sl (a.Blocks.map (eA4 eI))]],.cells 0 2 [[.sl (b.Cells.map (eL eI)),.sl (b.Blocks.map (eA4 eI))]]]⟩) (fun|(.inl ay),_=>⟨[],[]⟩|(.inr ()),_=>⟨[],[.cells 0 2 [[.sl (a.Cells.map (eL eI)),.sl (a.Blocks.map (eA4 eI))]],.cells 0 2 [[.sl (b.Cells.map (eL eI)),.sl (b.Blocks.map (eA4 eI))]]]⟩) (fun|(.inl _)=>none|(.inr _)=>some 2) ?_ ?_
 intro i10 au af
 rcases ar with ad|⟨⟩
 cases af;obtain rfl:=Option.some.inj af;obtain⟨⟩:=au;dsimp only at h|-;cases h;exact fin;intro al aE ae av aF I aa an;obtain⟨⟩:=av;dsimp only[zfb]at I|-;refine tr ?_;intros;refine fl I F ?_ ?_<;>intro I _ F;refine bx I F fun az I aw F=>?_;refine bx I F fun aA I ax F=>?_;refine tr ?_;intros;refine fi I F ?_ ?_<;>intro I _ F;cases I;refine tt ?_;refine wn ae F fun F=>?_;exact bk an aa ()
 cases I;obtain rfl:=sr aa
 try dsimp only at h
 cases h;exact fin;cases I;refine tt ?_;exact xt aa al ();intro af3 m3 ab a3 o3 U ho3 ih3;obtain⟨⟩:=a3;dsimp only[zfc]at U|-;refine tr ?_;intros;refine fl U F ?_ ?_<;>intro U _ F;refine bx U F fun aG U aB F=>?_;refine bx U F fun aH U aC F=>?_;refine bi U fun aI U ao=>?_;refine tr ?_;intros;refine cD (zjr ao) ?_;refine tr ?_;intros;refine fv U F ?_ ?_<;>intro U _ F;cases U;refine tt ?_
 refine wn ab F fun F=>?_;exact bk ih3 ho3 ();cases U;obtain rfl:=sr ho3
 try dsimp only at h
 cases h;exact fin;cases U;refine tt ?_;exact xt ho3 af3 ();cases h;exact fin;cases h;exact fin
end Go.Lz

end
section
namespace Go.Lz
open Go.Proofs
attribute [-go_sem] zmz g_b gd_b
set_option maxRecDepth 100000
set_option maxHeartbeats 4000000
noncomputable section
def zoh (t:xsc) (cells:List Int) (i:Int):Option (Int×Bool):=
 (zmm t).bind fun I=>if I=0 then((zql t).bind fun U=>if(cells.length:Int)=U then(if t.Len=0 then(some (0,true))else(if t.Low<=i then(some ((w64 (i-t.Low)),(decide (i<(w64 (t.Low+t.Len))))))else(some ((w64 (i-t.Low)),false))))else(some (0,false)))else(some (0,false))
def zqm (t:xsc) (cells:List Int) (i:Int):Option (Int×Int):=
 (zoh t cells i).bind fun I=>if I.2=true then((idx cells I.1).bind fun U=>some (U,0))else(some (0,2))
def zbp (b:Bool):Option Int:=
 if b=true then(some 1)else(some 0)
def zcw (name:Str):Option blocks_kind:=
 if name=([84,79,78]:Str)then(some (⟨[1,4],[1,4],(some 130)⟩:blocks_kind))else(if name=([84,79,70]:Str)then(some (⟨[1,4],[1,4],(some 131)⟩:blocks_kind))else(if name=([84,80]:Str)then(some (⟨[1,4],[1,4],(some 132)⟩:blocks_kind))else(if name=([67,84,85]:Str)then(some (⟨[1,1,2],[1,2],(some 133)⟩:blocks_kind))else(if name=([67,84,68]:Str)then(some (⟨[1,1,2],[1,2],(some 134)⟩:blocks_kind))else(if name=([67,84,85,68]:Str)then(some (⟨[1,1,1,1,2],[1,1,2],(some 135)⟩:blocks_kind))else(if name=([82,95,84,82,73,71]:Str)then(some (⟨[1],[1],(some 136)⟩:blocks_kind))else(if name=([70,95,84,82,73,71]:Str)then(some (⟨[1],[1],(some 137)⟩:blocks_kind))else(if name=([83,82]:Str)then(some (⟨[1,1],[1],(some 138)⟩:blocks_kind))else(if name=([82,83]:Str)then(some (⟨[1,1],[1],(some 139)⟩:blocks_kind))else(some (⟨[],[],none⟩:blocks_kind)))))))))))
def zlx (b:Bool):Option Int:=
 if b=true then(some 1)else(some 0)
def zbb (kind:Int) (n:Int):Option Int:=
 some (zpq kind n)
def zig (name:Str) (s:A4 Int) (i:Int):Option Int:=
 if name=([84,79,78]:Str)then(if i<0 then(some 0)else(if 2<=i then(some 0)else(if name=([67,84,85,68]:Str)then((zbp (decide (s.a3<=s.a0))).bind fun bg=>(zbp (decide (s.a0<=0))).bind fun bh=>(zcw name).bind fun bj=>(bj.out[2]?).bind fun bl=>(zbb bl s.a0).bind fun bm=>if i=0 then(some bg)else(if i=1 then(some bh)else(if i=2 then(some bm)else none)))else(if i=0 then((zbp (!(decide (s.a0=0)))).bind fun bn=>some bn)else((zcw name).bind fun bo=>(idx bo.out i).bind fun bp=>(zbb bp s.a1).bind fun bq=>some bq)))))else(if name=([84,79,70]:Str)then(if i<0 then(some 0)else(if 2<=i then(some 0)else(if name=([67,84,85,68]:Str)then((zbp (decide (s.a3<=s.a0))).bind fun I=>(zbp (decide (s.a0<=0))).bind fun U=>(zcw name).bind fun aa=>(aa.out[2]?).bind fun ab=>(zbb ab s.a0).bind fun ad=>if i=0 then(some I)else(if i=1 then(some U)else(if i=2 then(some ad)else none)))else(if i=0 then((zbp (!(decide (s.a0=0)))).bind fun ae=>some ae)else((zcw name).bind fun af=>(idx af.out i).bind fun ai=>(zbb ai s.a1).bind fun aj=>some aj)))))else(if name=([84,80]:Str)then(if i<0 then(some 0)else(if 2<=i then(some 0)else(if name=([67,84,85,68]:Str)then((zbp (decide (s.a3<=s.a0))).bind fun ak=>(zbp (decide (s.a0<=0))).bind fun al=>(zcw name).bind fun an=>(an.out[2]?).bind fun ao=>(zbb ao s.a0).bind fun aq=>if i=0 then(some ak)else(if i=1 then(some al)else(if i=2 then(some aq)else none)))else(if i=0 then((zbp (!(decide (s.a0=0)))).bind fun ar=>some ar)else((zcw name).bind fun au=>(idx au.out i).bind fun av=>(zbb av s.a1).bind fun aw=>some aw)))))else(if name=([67,84,85]:Str)then(if i<0 then(some 0)else(if 2<=i then(some 0)else(if name=([67,84,85,68]:Str)then((zbp (decide (s.a3<=s.a0))).bind fun ax=>(zbp (decide (s.a0<=0))).bind fun ay=>(zcw name).bind fun az=>(az.out[2]?).bind fun aA=>(zbb aA s.a0).bind fun aB=>if i=0 then(some ax)else(if i=1 then(some ay)else(if i=2 then(some aB)else none)))else(if i=0 then((zbp (!(decide (s.a0=0)))).bind fun aC=>some aC)else((zcw name).bind fun aD=>(idx aD.out i).bind fun aE=>(zbb aE s.a1).bind fun aF=>some aF)))))else(if name=([67,84,68]:Str)then(if i<0 then(some 0)else(if 2<=i then(some 0)else(if name=([67,84,85,68]:Str)then((zbp (decide (s.a3<=s.a0))).bind fun aG=>(zbp (decide (s.a0<=0))).bind fun aH=>(zcw name).bind fun aI=>(aI.out[2]?).bind fun aJ=>(zbb aJ s.a0).bind fun aK=>if i=0 then(some aG)else(if i=1 then(some aH)else(if i=2 then(some aK)else none)))else(if i=0 then((zbp (!(decide (s.a0=0)))).bind fun aL=>some aL)else((zcw name).bind fun aM=>(idx aM.out i).bind fun aN=>(zbb aN s.a1).bind fun aO=>some aO)))))else(if name=([67,84,85,68]:Str)then(if i<0 then(some 0)else(if 3<=i then(some 0)else((zbp (decide (s.a3<=s.a0))).bind fun aP=>(zbp (decide (s.a0<=0))).bind fun aQ=>(zcw name).bind fun aR=>(aR.out[2]?).bind fun aS=>(zbb aS s.a0).bind fun aT=>if i=0 then(some aP)else(if i=1 then(some aQ)else(if i=2 then(some aT)else none)))))else(if name=([82,95,84,82,73,71]:Str)then(if i<0 then(some 0)else(if 1<=i then(some 0)else(if i=0 then((zbp (!(decide (s.a0=0)))).bind fun aU=>some aU)else((zcw name).bind fun aV=>(idx aV.out i).bind fun aW=>(zbb aW s.a1).bind fun aX=>some aX))))else(if name=([70,95,84,82,73,71]:Str)then(if i<0 then(some 0)else(if 1<=i then(some 0)else(if i=0 then((zbp (!(decide (s.a0=0)))).bind fun aY=>some aY)else((zcw name).bind fun aZ=>(idx aZ.out i).bind fun a4=>(zbb a4 s.a1).bind fun a5=>some a5))))else(if name=([83,82]:Str)then(if i<0 then(some 0)else(if 1<=i then(some 0)else(if i=0 then((zbp (!(decide (s.a0=0)))).bind fun a6=>some a6)else((zcw name).bind fun a7=>(idx a7.out i).bind fun a8=>(zbb a8 s.a1).bind fun a9=>some a9))))else(if name=([82,83]:Str)then(if i<0 then(some 0)else(if 1<=i then(some 0)else(if i=0 then((zbp (!(decide (s.a0=0)))).bind fun ba=>some ba)else((zcw name).bind fun bb=>(idx bb.out i).bind fun bc=>(zbb bc s.a1).bind fun bf=>some bf))))else(if i<0 then(some 0)else(if 0<=i then(some 0)else none)))))))))))
def zi9 (op:Int) (kind:Int):Option Int:=
 (zeu kind).bind fun I=>if I=0 then(some 0)else(if op=5 then(if kind=1 then(some 0)else(some kind))else(if op=7 then(if kind=1 then(some 0)else(some kind))else(if op=8 then(if kind=1 then(some 0)else(some kind))else(if op=9 then(if kind=1 then(some 0)else(some kind))else(if op=10 then(if kind=1 then(some 0)else(some kind))else(if op=11 then(if kind=1 then(some 0)else(some kind))else(if op=6 then(if kind=4 then(some 0)else(some kind))else(if op=18 then(if kind=4 then(some 0)else(some kind))else(if op=19 then(if kind=4 then(some 0)else(some kind))else(if op=20 then(if kind=4 then(some 0)else(some kind))else(if op=12 then(some 1)else(if op=13 then(some 1)else(if op=14 then(if kind=1 then(some 0)else(some 1))else(if op=15 then(if kind=1 then(some 0)else(some 1))else(if op=16 then(if kind=1 then(some 0)else(some 1))else(if op=17 then(if kind=1 then(some 0)else(some 1))else(some 0)))))))))))))))))
def zmv (name:Str):Option (List Int):=
 if name=([84,79,78]:Str)then(some [1,4])else(if name=([84,79,70]:Str)then(some [1,4])else(if name=([84,80]:Str)then(some [1,4])else(if name=([67,84,85]:Str)then(some [1,2])else(if name=([67,84,68]:Str)then(some [1,2])else(if name=([67,84,85,68]:Str)then(some [1,1,2])else(if name=([82,95,84,82,73,71]:Str)then(some [1])else(if name=([70,95,84,82,73,71]:Str)then(some [1])else(if name=([83,82]:Str)then(some [1])else(if name=([82,83]:Str)then(some [1])else(some []))))))))))
def zdw (s:List Int) (f:(Int->Option Bool)):Nat->Option ((Nat)⊕(Int⊕Unit))
 |I=>if(I:Int)<(s.length:Int)then((s[I]?).bind fun U=>(f U).bind fun aa=>if aa=true then(some (.inr (.inl ((I:Int)))))else(some (.inl (I+1))))else(some (.inr (.inr (()))))
def zfa (s:List Int) (f:(Int->Option Bool)):Option Int:=
 (loop (zdw s f) 0).bind (fun I=>match I with|(.inl U)=>some U|(.inr ())=>some (-1))
def zck (s:List Int) (f:(Int->Option Bool)):Option Bool:=
 (zfa s f).bind fun I=>some (decide (0<=I))
def zlk (U:List Int) (k:Int):Option Bool:=
 (U[0]?).bind fun I=>some (!(decide (k=I)))
def zdf (I:xrw->xrx->Option Int) (p:xrw) (e:xrx):((List Int)×Nat)->Option (((List Int)×Nat)⊕(List Int))
 |(aa,U)=>if(U:Int)<(e.Args.length:Int)then((e.Args[U]?).bind fun ab=>(I p ab).bind fun ad=>(aa[U]?).bind fun ae=>some (.inl ((aa.set U ad),(U+1))))else(some (.inr (aa)))
def zlj (U:xrw->xrx->Option Int) (p:xrw) (e:xrx):Option Int:=
 need (0<=(e.Args.length:Int)/\8*(e.Args.length:Int)<=140737488355328) ((loop (zdf U p e) ((List.replicate e.Args.length 0),0)).bind (fun I=>if e.Op=1 then(some e.Kind)else(if e.Op=2 then((zks p e.Name).bind fun aa=>if aa<0 then(some 0)else((idx p.Vars aa).bind fun ab=>if((decide (0<ab.Type_.Len))==(decide (e.Op=3)))=true then(if e.Op=3 then none else(some ab.Type_.Kind))else(some 0)))else(if e.Op=3 then((zks p e.Name).bind fun ad=>if ad<0 then(some 0)else((idx p.Vars ad).bind fun ae=>if 0<ae.Type_.Len then(if(I.length:Int)=1 then((I[0]?).bind fun aj=>if aj=2 then(some ae.Type_.Kind)else(some 0))else(some 0))else(some 0)))else(if e.Op=4 then((zk0 p e.Name).bind fun af=>if af<0 then(some 0)else((idx p.Blocks af).bind fun ak=>(zmv ak.Kind).bind fun ai=>if 0<=e.N then(if e.N<(ai.length:Int)then((idx ai e.N).bind fun al=>some al)else(some 0))else(some 0)))else(if e.Op=21 then((zme p e.Name).bind fun an=>if 0<=an then(if(I.length:Int)=1 then((I[0]?).bind fun ao=>some ao)else(some 0))else(some 0))else(if 0<(I.length:Int)then((zck I (zlk I)).bind fun aq=>if aq=true then(some 0)else((I[0]?).bind fun ar=>(zi9 e.Op ar).bind fun au=>some au))else(some 0))))))))
def zli:Nat->(xrw->xrx->Option Int)
 |0=>fun _ _=>none
 |n+1=>zlj (zli n)
def z0v (n:Nat) (p:xrw) (e:xrx):Option Int:=(zli n) p e
def zvd (p:xrw) (e:xrx):Option Int:=z0v 1000000 p e
def zjx (p:xrw) (e:xrx):Option (Int×Bool):=
 (zvd p e).bind fun I=>some (I,(!(decide (I=0))))
def zlf (op:Int) (kind:Int) (a:Int):Option Int:=
 (zi9 op kind).bind fun U=>if U=0 then(some 0)else((zbb kind a).bind fun I=>if op=5 then((zbb kind (w64 (0-I))).bind fun aa=>some aa)else(if op=6 then(if kind=1 then(some (w64 (1-I)))else(some (xnot .i64 I)))else(some 0)))
def zm4 (op:Int) (a:Int) (b:Int):Option Int:=
 if op=12 then((zlx (decide (a=b))).bind fun I=>some I)else(if op=13 then((zlx (!(decide (a=b)))).bind fun U=>some U)else(if op=14 then((zlx (decide (a<b))).bind fun aa=>some aa)else(if op=15 then((zlx (decide (a<=b))).bind fun ab=>some ab)else(if op=16 then((zlx (decide (b<a))).bind fun ad=>some ad)else((zlx (decide (b<=a))).bind fun ae=>some ae)))))
def zmi (op:Int) (kind:Int) (a:Int) (b:Int):Option (Int×Int):=
 if op=5 then(some (0,0))else(if op=6 then(some (0,0))else((zi9 op kind).bind fun aj=>if aj=0 then(some (0,0))else((zbb kind a).bind fun U=>(zbb kind b).bind fun I=>if op=7 then((zbb kind (w64 (U*I))).bind fun ak=>some (ak,0))else(if op=8 then(if I=0 then(some (0,1))else(need (¬I=0) (if op=9 then none else((zbb kind (w64 (U.tdiv I))).bind fun al=>some (al,0)))))else(if op=9 then(if I=0 then(some (0,1))else(need (¬I=0) (need (¬I=0) ((zbb kind (U.tmod I)).bind fun an=>some (an,0)))))else(if op=10 then((zbb kind (w64 (U+I))).bind fun aa=>some (aa,0))else(if op=11 then((zbb kind (w64 (U-I))).bind fun ab=>some (ab,0))else(if op=18 then((zbb kind (w64 (andI .i64 U I))).bind fun ad=>some (ad,0))else(if op=19 then((zbb kind (w64 (xorI .i64 U I))).bind fun ae=>some (ae,0))else(if op=20 then((zbb kind (w64 (orI .i64 U I))).bind fun af=>some (af,0))else((zm4 op U I).bind fun ai=>some (ai,0))))))))))))
end
theorem zz4 {t:xsc} {cells:List Int} {i:Int} {r:Int×Bool} (h:zoh t cells i=some r):
  Pu Tryz.prog 92 [.agg (xsi t),.one (.sl (cells.map eI)),.one (.int .i64 i)] (.tup [.one (.int .i64 r.1),.one (.bool r.2)]):=by
 have F:=trivial;have R:=trivial
 refine pA Tryz.func92 ?_;simp only[Tryz.f92];unfold zoh at h;refine bi h fun aa h I=>?_;refine tr ?_;intros;refine cS (zvb I) ?_;refine fi h F ?_ ?_<;>intro h _ F;refine bi h fun ab h U=>?_;refine tr ?_;intros;refine cS (z1z U) ?_;refine fi h F ?_ ?_<;>intro h _ F;refine tt ?_;refine fi h F ?_ ?_<;>intro h _ F;cases h;exact fin;refine tr ?_;intros;refine fi h F ?_ ?_<;>intro h _ F;cases h;exact fin
 cases h;exact fin;cases h;exact fin;cases h;exact fin
theorem zx3 {t:xsc} {cells:List Int} {i:Int} {r:Int×Int} (h:zqm t cells i=some r):
  Pu Tryz.prog 61 [.agg (xsi t),.one (.sl (cells.map eI)),.one (.int .i64 i)] (.tup [.one (.int .i64 r.1),.one (.int .i64 r.2)]):=by
 have F:=trivial;have R:=trivial
 refine pA Tryz.func61 ?_;simp only[Tryz.f61];unfold zqm at h;refine bi h fun aa h I=>?_;refine tr ?_;intros;refine cS (zz4 I) ?_;refine tt ?_;refine fv h F ?_ ?_<;>intro h _ F;refine by_ h F fun ab h U F=>?_;cases h;exact fin;cases h;exact fin
theorem za9 {b:Bool} {r:Int} (h:zbp b=some r):
  Pu Tryz.prog 96 [.one (.bool b)] (.one (.int .i64 r)):=by
 have F:=trivial;have R:=trivial
 refine pA Tryz.func96 ?_;simp only[Tryz.f96];unfold zbp at h;refine fv h F ?_ ?_<;>intro h _ F;cases h;exact fin;cases h;exact fin
theorem zcs {name:Str} {r:blocks_kind} (h:zcw name=some r):
  Pu Tryz.prog 95 [.one (.str name)] (.agg (zns r)):=by
 have F:=trivial;have R:=trivial
 refine pA Tryz.func95 ?_;simp only[Tryz.f95];unfold zcw at h;refine tr ?_;intros;refine fi h F ?_ ?_<;>intro h _ F;refine tr ?_;intros;refine iS Tryz.func129 ?_;simp only[Tryz.f129];cases h;exact fin;refine fi h F ?_ ?_<;>intro h _ F;refine tr ?_;intros;refine iS Tryz.func129 ?_;simp only[Tryz.f129];cases h;exact fin;refine fi h F ?_ ?_<;>intro h _ F;refine tr ?_;intros;refine iS Tryz.func129 ?_
 simp only[Tryz.f129];cases h;exact fin;refine fi h F ?_ ?_<;>intro h _ F;refine tr ?_;intros;refine iS Tryz.func129 ?_;simp only[Tryz.f129];cases h;exact fin;refine tt ?_;refine fi h F ?_ ?_<;>intro h _ F;refine tr ?_;intros;refine iS Tryz.func129 ?_;simp only[Tryz.f129];cases h;exact fin;refine fi h F ?_ ?_<;>intro h _ F;cases h;exact fin;refine fi h F ?_ ?_<;>intro h _ F;refine tr ?_
 intros;refine iS Tryz.func129 ?_;simp only[Tryz.f129];cases h;exact fin;refine fi h F ?_ ?_<;>intro h _ F;refine tr ?_;intros;refine iS Tryz.func129 ?_;simp only[Tryz.f129];cases h;exact fin;refine tt ?_;refine fi h F ?_ ?_<;>intro h _ F;refine tr ?_;intros;refine iS Tryz.func129 ?_;simp only[Tryz.f129];cases h;exact fin;refine fi h F ?_ ?_<;>intro h _ F;refine tr ?_;intros;refine iS Tryz.func129 ?_
 simp only[Tryz.f129];cases h;exact fin;cases h;exact fin
theorem zk2 {b:Bool} {r:Int} (h:zlx b=some r):
  Pu Tryz.prog 141 [.one (.bool b)] (.one (.int .i64 r)):=by
 have F:=trivial;have R:=trivial
 refine pA Tryz.func141 ?_;simp only[Tryz.f141];unfold zlx at h;refine fv h F ?_ ?_<;>intro h _ F;cases h;exact fin;cases h;exact fin
theorem za0 {kind:Int} {n:Int} {r:Int} (h:zbb kind n=some r):
  Pu Tryz.prog 97 [.one (.int .i64 kind),.one (.int .i64 n)] (.one (.int .i64 r)):=by
 have F:=trivial;have R:=trivial
 cases h;refine pA Tryz.func97 ?_;simp only[Tryz.f97];refine tt ?_
 rcases kinds kind with rfl|rfl|rfl|rfl|⟨h1,h2,h3,h4⟩
 ·refine cS (zih (show zeu 1=some 1 by simp[zeu])) ?_
  refine tt ?_;refine cS (zk2 (show zlx (!decide (n=0))=some (zpq 1 n) by by_cases hn:n=0<;>simp[zlx,zpq,hn])) ?_;exact fin
 ·refine cS (zih (show zeu 2=some 16 by simp[zeu])) ?_
  refine tt ?_
  iterate 6
   refine z3x (by rfl) (by kernel_rfl) ?_;refine tt ?_
  rw[yea];simp only[show∀n:Int,IntKind.i64.wrap n=_ from znw];rw[Int.fdiv_eq_ediv_of_nonneg _ (by decide)];simp only[V.one.injEq,C.int.injEq,true_and];omega
 ·refine cS (zih (show zeu 3=some 32 by simp[zeu])) ?_
  refine tt ?_
  iterate 4
   refine z3x (by rfl) (by kernel_rfl) ?_;refine tt ?_
  rw[yd9];simp only[show∀n:Int,IntKind.i64.wrap n=_ from znw];rw[Int.fdiv_eq_ediv_of_nonneg _ (by decide)];simp only[V.one.injEq,C.int.injEq,true_and];omega
 ·refine cS (zih (show zeu 4=some 32 by simp[zeu])) ?_
  refine tt ?_
  iterate 4
   refine z3x (by rfl) (by kernel_rfl) ?_;refine tt ?_
  rw[yd8];simp only[show∀n:Int,IntKind.i64.wrap n=_ from znw];rw[Int.fdiv_eq_ediv_of_nonneg _ (by decide)];simp only[V.one.injEq,C.int.injEq,true_and];omega
 ·refine cS (zih (show zeu kind=some 0 by simp[zeu,h1,h2,h3,h4])) ?_
  rw[yi7 h1 h2 h3 h4]
  have F:=And.intro (eq_false h1) F
  exact fin
theorem z10 {name:Str} {s:A4 Int} {i:Int} {r:Int} (h:zig name s i=some r):
  Pu Tryz.prog 63 [.one (.str name),.agg ((eA4 eI) s),.one (.int .i64 i)] (.one (.int .i64 r)):=by
 have F:=trivial;have R:=trivial
 refine pA Tryz.func63 ?_;simp only[Tryz.f63];unfold zig at h;refine tr ?_;intros;refine iS Tryz.func95 ?_;simp only[Tryz.f95];refine tr ?_;intros;refine fi h F ?_ ?_<;>intro h _ F;refine tr ?_;intros;refine iS Tryz.func129 ?_;simp only[Tryz.f129];refine tr ?_;intros;refine fi h F ?_ ?_<;>intro h _ F;cases h;exact fin;refine fi h F ?_ ?_<;>intro h _ F;cases h;exact fin;refine tt ?_;refine fi h F ?_ ?_<;>intro h _ F
 refine bi h fun cu h aX=>?_;refine tr ?_;intros;refine cD (za9 aX) ?_;refine bi h fun cv h aY=>?_;refine tr ?_;intros;refine cD (za9 aY) ?_;refine bi h fun cw h aZ=>?_;refine tr ?_;intros;refine cD (zcs aZ) ?_;refine bx h F fun cx h bp F=>?_;refine bi h fun cy h a4=>?_;refine tr ?_;intros;refine cD (za0 a4) ?_;refine tr ?_;intros;refine fe h F ?_ ?_<;>intro h _ F;cases h;exact fin;refine tr ?_
 intros;refine fe h F ?_ ?_<;>intro h _ F;cases h;exact fin;refine tr ?_;intros;refine fe h F ?_ ?_<;>intro h _ F;cases h;exact fin;cases h;refine fi h F ?_ ?_<;>intro h _ F;refine bi h fun cA h a5=>?_;refine tr ?_;intros;refine cS (za9 a5) ?_;cases h;exact fin;refine bi h fun cB h a6=>?_;refine tr ?_;intros;refine cD (zcs a6) ?_;refine by_ h F fun cC h bq F=>?_;refine bi h fun cE h a7=>?_
 refine tr ?_;intros;refine cD (za0 a7) ?_;cases h;exact fin;refine fi h F ?_ ?_<;>intro h _ F;refine tr ?_;intros;refine iS Tryz.func129 ?_;simp only[Tryz.f129];refine tr ?_;intros;refine fi h F ?_ ?_<;>intro h _ F;cases h;exact fin;refine fi h F ?_ ?_<;>intro h _ F;cases h;exact fin;refine tt ?_;refine fi h F ?_ ?_<;>intro h _ F;refine bi h fun br h I=>?_;refine tr ?_;intros;refine cD (za9 I) ?_
 refine bi h fun bs h U=>?_;refine tr ?_;intros;refine cD (za9 U) ?_;refine bi h fun bt h aa=>?_;refine tr ?_;intros;refine cD (zcs aa) ?_;refine bx h F fun bu h a8 F=>?_;refine bi h fun bw h ab=>?_;refine tr ?_;intros;refine cD (za0 ab) ?_;refine tr ?_;intros;refine fe h F ?_ ?_<;>intro h _ F;cases h;exact fin;refine tr ?_;intros;refine fe h F ?_ ?_<;>intro h _ F;cases h;exact fin;refine tr ?_
 intros;refine fe h F ?_ ?_<;>intro h _ F;cases h;exact fin;cases h;refine fi h F ?_ ?_<;>intro h _ F;refine bi h fun bz h ad=>?_;refine tr ?_;intros;refine cS (za9 ad) ?_;cases h;exact fin;refine bi h fun bA h ae=>?_;refine tr ?_;intros;refine cD (zcs ae) ?_;refine by_ h F fun bB h a9 F=>?_;refine bi h fun bC h af=>?_;refine tr ?_;intros;refine cD (za0 af) ?_;cases h;exact fin;refine fi h F ?_ ?_<;>intro h _ F
 refine tr ?_;intros;refine iS Tryz.func129 ?_;simp only[Tryz.f129];refine tr ?_;intros;refine fi h F ?_ ?_<;>intro h _ F;cases h;exact fin;refine fi h F ?_ ?_<;>intro h _ F;cases h;exact fin;refine tt ?_;refine fi h F ?_ ?_<;>intro h _ F;refine bi h fun bD h ai=>?_;refine tr ?_;intros;refine cD (za9 ai) ?_;refine bi h fun bE h aj=>?_;refine tr ?_;intros;refine cD (za9 aj) ?_;refine bi h fun bF h ak=>?_
 refine tr ?_;intros;refine cD (zcs ak) ?_;refine bx h F fun bG h ba F=>?_;refine bi h fun bH h al=>?_;refine tr ?_;intros;refine cD (za0 al) ?_;refine tr ?_;intros;refine fe h F ?_ ?_<;>intro h _ F;cases h;exact fin;refine tr ?_;intros;refine fe h F ?_ ?_<;>intro h _ F;cases h;exact fin;refine tr ?_;intros;refine fe h F ?_ ?_<;>intro h _ F;cases h;exact fin;cases h;refine fi h F ?_ ?_<;>intro h _ F
 refine bi h fun bI h an=>?_;refine tr ?_;intros;refine cS (za9 an) ?_;cases h;exact fin;refine bi h fun bJ h ao=>?_;refine tr ?_;intros;refine cD (zcs ao) ?_;refine by_ h F fun bK h bb F=>?_;refine bi h fun bL h aq=>?_;refine tr ?_;intros;refine cD (za0 aq) ?_;cases h;exact fin;refine fi h F ?_ ?_<;>intro h _ F;refine tr ?_;intros;refine iS Tryz.func129 ?_;simp only[Tryz.f129];refine tr ?_
 intros;refine fi h F ?_ ?_<;>intro h _ F;cases h;exact fin;refine fi h F ?_ ?_<;>intro h _ F;cases h;exact fin;refine tt ?_;refine fi h F ?_ ?_<;>intro h _ F;refine bi h fun bM h ar=>?_;refine tr ?_;intros;refine cD (za9 ar) ?_;refine bi h fun bN h au=>?_;refine tr ?_;intros;refine cD (za9 au) ?_;refine bi h fun bO h av=>?_;refine tr ?_;intros;refine cD (zcs av) ?_;refine bx h F fun bP h bc F=>?_
 refine bi h fun bQ h aw=>?_;refine tr ?_;intros;refine cD (za0 aw) ?_;refine tr ?_;intros;refine fe h F ?_ ?_<;>intro h _ F;cases h;exact fin;refine tr ?_;intros;refine fe h F ?_ ?_<;>intro h _ F;cases h;exact fin;refine tr ?_;intros;refine fe h F ?_ ?_<;>intro h _ F;cases h;exact fin;cases h;refine fi h F ?_ ?_<;>intro h _ F;refine bi h fun bR h ax=>?_;refine tr ?_;intros;refine cS (za9 ax) ?_
 cases h;exact fin;refine bi h fun bS h ay=>?_;refine tr ?_;intros;refine cD (zcs ay) ?_;refine by_ h F fun bT h bf F=>?_;refine bi h fun bU h az=>?_;refine tr ?_;intros;refine cD (za0 az) ?_;cases h;exact fin;refine tt ?_;refine fi h F ?_ ?_<;>intro h _ F;refine tr ?_;intros;refine iS Tryz.func129 ?_;simp only[Tryz.f129];refine tr ?_;intros;refine fi h F ?_ ?_<;>intro h _ F;cases h;exact fin
 refine fi h F ?_ ?_<;>intro h _ F;cases h;exact fin;refine tt ?_;refine fi h F ?_ ?_<;>intro h _ F;refine bi h fun bV h aA=>?_;refine tr ?_;intros;refine cD (za9 aA) ?_;refine bi h fun bW h aB=>?_;refine tr ?_;intros;refine cD (za9 aB) ?_;refine bi h fun bX h aC=>?_;refine tr ?_;intros;refine cD (zcs aC) ?_;refine bx h F fun bY h bg F=>?_;refine bi h fun bZ h aD=>?_;refine tr ?_;intros
 refine cD (za0 aD) ?_;refine tr ?_;intros;refine fe h F ?_ ?_<;>intro h _ F;cases h;exact fin;refine tr ?_;intros;refine fe h F ?_ ?_<;>intro h _ F;cases h;exact fin;refine tr ?_;intros;refine fe h F ?_ ?_<;>intro h _ F;cases h;exact fin;cases h;refine fi h F ?_ ?_<;>intro h _ F;refine bi h fun b0 h aE=>?_;refine tr ?_;intros;refine cS (za9 aE) ?_;cases h;exact fin;refine bi h fun b1 h aF=>?_
 refine tr ?_;intros;refine cD (zcs aF) ?_;refine by_ h F fun b2 h bh F=>?_;refine bi h fun b3 h aG=>?_;refine tr ?_;intros;refine cD (za0 aG) ?_;cases h;exact fin;refine fi h F ?_ ?_<;>intro h _ F;refine tr ?_;intros;refine fi h F ?_ ?_<;>intro h _ F;cases h;exact fin;refine fi h F ?_ ?_<;>intro h _ F;cases h;exact fin;refine bi h fun b4 h aH=>?_;refine tr ?_;intros;refine cD (za9 aH) ?_
 refine bi h fun b5 h aI=>?_;refine tr ?_;intros;refine cD (za9 aI) ?_;refine bi h fun b6 h aJ=>?_;refine tr ?_;intros;refine cD (zcs aJ) ?_;refine bx h F fun b7 h bj F=>?_;refine bi h fun b8 h aK=>?_;refine tr ?_;intros;refine cD (za0 aK) ?_;refine tr ?_;intros;refine fe h F ?_ ?_<;>intro h _ F;cases h;exact fin;refine tr ?_;intros;refine fe h F ?_ ?_<;>intro h _ F;cases h;exact fin
 refine tr ?_;intros;refine fe h F ?_ ?_<;>intro h _ F;cases h;exact fin;cases h;refine fi h F ?_ ?_<;>intro h _ F;refine tr ?_;intros;refine iS Tryz.func129 ?_;simp only[Tryz.f129];refine tr ?_;intros;refine fi h F ?_ ?_<;>intro h _ F;cases h;exact fin;refine fi h F ?_ ?_<;>intro h _ F;cases h;exact fin;refine tt ?_;refine fi h F ?_ ?_<;>intro h _ F;refine bi h fun b9 h aL=>?_;refine tr ?_
 intros;refine cS (za9 aL) ?_;cases h;exact fin;refine bi h fun ca h aM=>?_;refine tr ?_;intros;refine cD (zcs aM) ?_;refine by_ h F fun cb h bl F=>?_;refine bi h fun cc h aN=>?_;refine tr ?_;intros;refine cD (za0 aN) ?_;cases h;exact fin;refine fi h F ?_ ?_<;>intro h _ F;refine tr ?_;intros;refine iS Tryz.func129 ?_;simp only[Tryz.f129];refine tr ?_;intros;refine fi h F ?_ ?_<;>intro h _ F
 cases h;exact fin;refine fi h F ?_ ?_<;>intro h _ F;cases h;exact fin;refine tt ?_;refine fi h F ?_ ?_<;>intro h _ F;refine bi h fun cd h aO=>?_;refine tr ?_;intros;refine cS (za9 aO) ?_;cases h;exact fin;refine bi h fun cf h aP=>?_;refine tr ?_;intros;refine cD (zcs aP) ?_;refine by_ h F fun cg h bm F=>?_;refine bi h fun ch h aQ=>?_;refine tr ?_;intros;refine cD (za0 aQ) ?_;cases h;exact fin
 refine tt ?_;refine fi h F ?_ ?_<;>intro h _ F;refine tr ?_;intros;refine iS Tryz.func129 ?_;simp only[Tryz.f129];refine tr ?_;intros;refine fi h F ?_ ?_<;>intro h _ F;cases h;exact fin;refine fi h F ?_ ?_<;>intro h _ F;cases h;exact fin;refine tt ?_;refine fi h F ?_ ?_<;>intro h _ F;refine bi h fun cj h aR=>?_;refine tr ?_;intros;refine cS (za9 aR) ?_;cases h;exact fin;refine bi h fun ck h aS=>?_
 refine tr ?_;intros;refine cD (zcs aS) ?_;refine by_ h F fun cm h bn F=>?_;refine bi h fun cn h aT=>?_;refine tr ?_;intros;refine cD (za0 aT) ?_;cases h;exact fin;refine fi h F ?_ ?_<;>intro h _ F;refine tr ?_;intros;refine iS Tryz.func129 ?_;simp only[Tryz.f129];refine tr ?_;intros;refine fi h F ?_ ?_<;>intro h _ F;cases h;exact fin;refine fi h F ?_ ?_<;>intro h _ F;cases h;exact fin
 refine tt ?_;refine fi h F ?_ ?_<;>intro h _ F;refine bi h fun cp h aU=>?_;refine tr ?_;intros;refine cS (za9 aU) ?_;cases h;exact fin;refine bi h fun cq h aV=>?_;refine tr ?_;intros;refine cD (zcs aV) ?_;refine by_ h F fun cr h bo F=>?_;refine bi h fun ct h aW=>?_;refine tr ?_;intros;refine cD (za0 aW) ?_;cases h;exact fin;refine tr ?_;intros;refine fi h F ?_ ?_<;>intro h _ F;cases h;exact fin
 refine fi h F ?_ ?_<;>intro h _ F;cases h;exact fin;exact(by omega:False).elim
theorem zph {op:Int} {kind:Int} {r:Int} (h:zi9 op kind=some r):
  Pu Tryz.prog 101 [.one (.int .i64 op),.one (.int .i64 kind)] (.one (.int .i64 r)):=by
 have F:=trivial;have R:=trivial
 refine pA Tryz.func101 ?_;simp only[Tryz.f101];unfold zi9 at h;refine bi h fun U h I=>?_;refine tr ?_;intros;refine cS (zih I) ?_;refine fi h F ?_ ?_<;>intro h _ F;cases h;exact fin;refine tt ?_;refine fi h F ?_ ?_<;>intro h _ F;refine fi h F ?_ ?_<;>intro h _ F;cases h;exact fin;cases h;exact fin;refine fi h F ?_ ?_<;>intro h _ F;refine fi h F ?_ ?_<;>intro h _ F;cases h;exact fin
 cases h;exact fin;refine fi h F ?_ ?_<;>intro h _ F;refine fi h F ?_ ?_<;>intro h _ F;cases h;exact fin;cases h;exact fin;refine fi h F ?_ ?_<;>intro h _ F;refine tt ?_;refine fi h F ?_ ?_<;>intro h _ F;cases h;exact fin;cases h;exact fin;refine tt ?_;refine fi h F ?_ ?_<;>intro h _ F;refine fi h F ?_ ?_<;>intro h _ F;cases h;exact fin;cases h;exact fin;refine fi h F ?_ ?_<;>intro h _ F
 refine fi h F ?_ ?_<;>intro h _ F;cases h;exact fin;cases h;exact fin;refine fi h F ?_ ?_<;>intro h _ F;refine fi h F ?_ ?_<;>intro h _ F;cases h;exact fin;cases h;exact fin;refine fi h F ?_ ?_<;>intro h _ F;refine tt ?_;refine fi h F ?_ ?_<;>intro h _ F;cases h;exact fin;cases h;exact fin;refine tt ?_;refine fi h F ?_ ?_<;>intro h _ F;refine fi h F ?_ ?_<;>intro h _ F;cases h;exact fin
 cases h;exact fin;refine fi h F ?_ ?_<;>intro h _ F;refine fi h F ?_ ?_<;>intro h _ F;cases h;exact fin;cases h;exact fin;refine fi h F ?_ ?_<;>intro h _ F;cases h;exact fin;refine fi h F ?_ ?_<;>intro h _ F;cases h;exact fin;refine tt ?_;refine fi h F ?_ ?_<;>intro h _ F;refine fi h F ?_ ?_<;>intro h _ F;cases h;exact fin;cases h;exact fin;refine fi h F ?_ ?_<;>intro h _ F;refine fi h F ?_ ?_<;>intro h _ F
 cases h;exact fin;cases h;exact fin;refine fi h F ?_ ?_<;>intro h _ F;refine fi h F ?_ ?_<;>intro h _ F;cases h;exact fin;cases h;exact fin;refine fi h F ?_ ?_<;>intro h _ F;refine tt ?_;refine fi h F ?_ ?_<;>intro h _ F;cases h;exact fin;cases h;exact fin;cases h;exact fin
theorem zxh {name:Str} {r:List Int} (h:zmv name=some r):
  Pu Tryz.prog 145 [.one (.str name)] (.one (.sl (r.map eI))):=by
 have F:=trivial;have R:=trivial
 refine pA Tryz.func145 ?_;simp only[Tryz.f145];unfold zmv at h;refine tr ?_;intros;refine iS Tryz.func95 ?_;simp only[Tryz.f95];refine tr ?_;intros;refine fi h F ?_ ?_<;>intro h _ F;refine tr ?_;intros;refine iS Tryz.func129 ?_;simp only[Tryz.f129];cases h;exact fin;refine fi h F ?_ ?_<;>intro h _ F;refine tr ?_;intros;refine iS Tryz.func129 ?_;simp only[Tryz.f129];cases h;exact fin;refine fi h F ?_ ?_<;>intro h _ F
 refine tr ?_;intros;refine iS Tryz.func129 ?_;simp only[Tryz.f129];cases h;exact fin;refine fi h F ?_ ?_<;>intro h _ F;refine tr ?_;intros;refine iS Tryz.func129 ?_;simp only[Tryz.f129];cases h;exact fin;refine tt ?_;refine fi h F ?_ ?_<;>intro h _ F;refine tr ?_;intros;refine iS Tryz.func129 ?_;simp only[Tryz.f129];cases h;exact fin;refine fi h F ?_ ?_<;>intro h _ F;cases h;exact fin
 refine fi h F ?_ ?_<;>intro h _ F;refine tr ?_;intros;refine iS Tryz.func129 ?_;simp only[Tryz.f129];cases h;exact fin;refine fi h F ?_ ?_<;>intro h _ F;refine tr ?_;intros;refine iS Tryz.func129 ?_;simp only[Tryz.f129];cases h;exact fin;refine tt ?_;refine fi h F ?_ ?_<;>intro h _ F;refine tr ?_;intros;refine iS Tryz.func129 ?_;simp only[Tryz.f129];cases h;exact fin;refine fi h F ?_ ?_<;>intro h _ F
 refine tr ?_;intros;refine iS Tryz.func129 ?_;simp only[Tryz.f129];cases h;exact fin;cases h;exact fin
theorem znz {s:List Int} {f:(Int->Option Bool)} {r:Int}
  {f_f:FuncId} {f_c:List C} (ab:Clo f_c) (ad:∀(x0:Int) (r:Bool),f x0=some r->Pu Tryz.prog f_f ([.one (.int .i64 x0)]++f_c.map V.one) (.one (.bool r))) (h:zfa s f=some r):
  Pu Tryz.prog 168 [.one (.sl (s.map eI)),.one (.fn f_f f_c)] (.one (.int .i64 r)):=by
 have F:=trivial;have R:=trivial
 refine pA Tryz.func168 ?_;simp only[Tryz.f168];unfold zfa at h
 have F:=And.intro ab.all F
 refine bi h fun ai h ae=>?_;refine tr ?_;intros
 refine lX ae (fun|U,_=>⟨[(0,.one (.sl (s.map eI))),(1,.one (.fn f_f f_c)),(7,.one (.int .i64 (s.length:Int))),(8,.one (.int .i64 (U:Int)))],[]⟩) (fun|(.inl al),_=>⟨[],[]⟩|(.inr ()),_=>⟨[],[]⟩) (fun|(.inl _)=>none|(.inr _)=>some 0) ?_ ?_
 intro i3 b3 aa
 rcases ai with aj|⟨⟩
 cases aa;obtain rfl:=Option.some.inj aa;obtain⟨⟩:=b3;dsimp only at h|-;cases h;exact fin;intro af3 m3 U a3 o3 I ho3 ih3;obtain⟨⟩:=a3;dsimp only[zdw]at I|-;refine fl I F ?_ ?_<;>intro I _ F;refine bx I F fun an I ak F=>?_;refine bi I fun ao I af=>?_;refine tr ?_;intros;refine cS (ad _ _ af) ?_;refine fv I F ?_ ?_<;>intro I _ F;cases I;obtain rfl:=sr ho3
 try dsimp only at h
 cases h;exact fin;cases I;refine tt ?_;refine wn U F fun F=>?_;exact bk ih3 ho3 ();cases I;refine tt ?_;exact xt ho3 af3 ()
theorem zmx {s:List Int} {f:(Int->Option Bool)} {r:Bool}
  {f_f:FuncId} {f_c:List C} (I:Clo f_c) (U:∀(x0:Int) (r:Bool),f x0=some r->Pu Tryz.prog f_f ([.one (.int .i64 x0)]++f_c.map V.one) (.one (.bool r))) (h:zck s f=some r):
  Pu Tryz.prog 146 [.one (.sl (s.map eI)),.one (.fn f_f f_c)] (.one (.bool r)):=by
 have F:=trivial;have R:=trivial
 refine pA Tryz.func146 ?_;simp only[Tryz.f146];unfold zck at h
 have F:=And.intro I.all F
 refine bi h fun ab h aa=>?_;refine tr ?_;intros;refine cS (znz (f_f:=f_f) (f_c:=f_c) I U aa) ?_;cases h;exact fin
theorem zx7 {I:List Int} {k:Int} {r:Bool} (h:zlk I k=some r):
  Pu Tryz.prog 147 [.one (.int .i64 k),.one (.iptr ((eL eI) I) 0)] (.one (.bool r)):=by
 have F:=trivial;have R:=trivial
 refine pA Tryz.func147 ?_;simp only[Tryz.f147];unfold zlk at h;refine bx h F fun aa h U F=>?_;cases h;exact fin
theorem zx6 {I:xrw->xrx->Option Int} {p:xrw} {e:xrx} {r:Int}
  (aa:∀(x0:xrw) (x1:xrx) (r:Int),I x0 x1=some r->Pu Tryz.prog 100 [.agg (xr5 x0),.agg (xr3 x1)] (.one (.int .i64 r))) (h:zlj I p e=some r):
  Pu Tryz.prog 100 [.agg (xr5 p),.agg (xr3 e)] (.one (.int .i64 r)):=by
 have F:=trivial;have R:=trivial
 refine pA Tryz.func100 ?_;simp only[Tryz.f100];unfold zlj at h;refine nd h F fun h F=>?_
 have R:=And.intro (show List.replicate e.Args.length [.int .i64 0]=List.map eI (List.replicate e.Args.length 0) by simp[go_sem]) R
 refine bi h fun ae h au=>?_;refine tr ?_;intros
 refine lX au (fun|(ab,ad),_=>⟨[(2,.one (.ref 0 0 0 0)),(3,.one (.ref 1 0 0 0)),(5,.one (.ref 3 0 0 0)),(20,.one (.sl (e.Args.map xr3))),(21,.one (.int .i64 (e.Args.length:Int))),(22,.one (.int .i64 (ad:Int)))],[.cells 0 6 [[.sl (p.Lattice.Names.map eS),.sl (p.Lattice.Below.map (eA2 eI)),.sl (p.Sites.map xrz),.sl (p.Vars.map xr0),.sl (p.Blocks.map xr1),.sl (p.Tasks.map xr2)]],.cells 0 5 [[.int .i64 e.Op,.int .i64 e.N,.int .i64 e.Kind,.str e.Name,.sl (e.Args.map xr3)]],.cells 0 1 (ab.map eI),.cells 0 1 [[.msl 2 0 0 ab.length]]]⟩) (fun|ae,_=>⟨[(2,.one (.ref 0 0 0 0)),(3,.one (.ref 1 0 0 0)),(5,.one (.ref 3 0 0 0))],[.cells 0 6 [[.sl (p.Lattice.Names.map eS),.sl (p.Lattice.Below.map (eA2 eI)),.sl (p.Sites.map xrz),.sl (p.Vars.map xr0),.sl (p.Blocks.map xr1),.sl (p.Tasks.map xr2)]],.cells 0 5 [[.int .i64 e.Op,.int .i64 e.N,.int .i64 e.Kind,.str e.Name,.sl (e.Args.map xr3)]],.cells 0 1 (ae.map eI),.cells 0 1 [[.msl 2 0 0 ae.length]]]⟩) (fun _=>some 0) ?_ ?_
 intro i5 b5 aw;obtain rfl:=Option.some.inj aw;obtain⟨⟩:=b5;dsimp only at h|-;refine tr ?_;intros;refine iS Tryz.func144 ?_;simp only[Tryz.f144];refine tt ?_;refine fi h F ?_ ?_<;>intro h _ F;cases h;exact fin;refine fi h F ?_ ?_<;>intro h _ F;refine bi h fun aG h af=>?_;refine tr ?_;intros;refine cS (zk8 af) ?_;refine tr ?_;intros;refine fi h F ?_ ?_<;>intro h _ F;cases h;exact fin
 refine by_ h F fun aH h az F=>?_;refine tr ?_;intros;refine fv h F ?_ ?_<;>intro h _ F;refine tt ?_;refine fi h F ?_ ?_<;>intro h _ F;exact(by omega:False).elim;cases h;exact fin;cases h;exact fin;refine fi h F ?_ ?_<;>intro h _ F;refine bi h fun aI h ai=>?_;refine tr ?_;intros;refine cS (zk8 ai) ?_;refine tr ?_;intros;refine fi h F ?_ ?_<;>intro h _ F;cases h;exact fin;refine by_ h F fun aJ h aA F=>?_
 refine tr ?_;intros;refine fi h F ?_ ?_<;>intro h _ F;refine tr ?_;intros;refine fi h F ?_ ?_<;>intro h _ F;refine bx h F fun aK h aB F=>?_;refine tr ?_;intros;refine fi h F ?_ ?_<;>intro h _ F;cases h;exact fin;cases h;exact fin;cases h;exact fin;cases h;exact fin;refine fi h F ?_ ?_<;>intro h _ F;refine bi h fun aL h aj=>?_;refine tr ?_;intros;refine cS (zo0 aj) ?_;refine fi h F ?_ ?_<;>intro h _ F
 cases h;exact fin;refine by_ h F fun aM h aC F=>?_;refine bi h fun aN h ak=>?_;refine tr ?_;intros;refine cS (zxh ak) ?_;refine fi h F ?_ ?_<;>intro h _ F;refine tr ?_;intros;refine fi h F ?_ ?_<;>intro h _ F;refine by_ h F fun aO h aD F=>?_;cases h;exact fin;cases h;exact fin;cases h;exact fin;refine tt ?_;refine fi h F ?_ ?_<;>intro h _ F;refine bi h fun aP h al=>?_;refine tr ?_
 intros;refine cS (zqx al) ?_;refine tr ?_;intros;refine fi h F ?_ ?_<;>intro h _ F;refine tr ?_;intros;refine fi h F ?_ ?_<;>intro h _ F;refine bx h F fun aQ h aE F=>?_;cases h;exact fin;cases h;exact fin;cases h;exact fin;refine tr ?_;intros;refine fi h F ?_ ?_<;>intro h _ F;refine bi h fun aR h an=>?_;refine tr ?_;intros;refine cS (zmx (f_f:=147) (f_c:=[.iptr [.sl (ae.map eI)] 0]) clo (fun _ r h=>zx7 h) an) ?_
 refine fv h F ?_ ?_<;>intro h _ F;cases h;exact fin;refine bx h F fun aS h aF F=>?_;refine bi h fun aT h ao=>?_;refine tr ?_;intros;refine cD (zph ao) ?_;cases h;exact fin;cases h;exact fin;intro ax m5 s5 a5 o5 U aq ay;obtain⟨ab,ad⟩:=s5;obtain⟨⟩:=a5;dsimp only[zdf]at U|-;refine fl U F ?_ ?_<;>intro U _ F;refine bx U F fun aW U aU F=>?_;refine bi U fun ar U av=>?_;refine tr ?_
 intros;refine cD (aa _ _ _ av) ?_;refine bx U F fun aX U aV F=>?_
 have R:=And.intro (show(List.map eI ab).set ad [.int .i64 ar]=List.map eI (ab.set ad ar) by simp[go_sem,List.map_set]) R
 cases U;refine tr ?_;intros;refine wn ad F fun F=>?_;exact bk ay aq ();cases U;refine tt ?_;exact xt aq ax ()
theorem zx5 (n:Nat):(∀(I:xrw) (U:xrx) (r:Int),(zli n) I U=some r->Pu Tryz.prog 100 [.agg (xr5 I),.agg (xr3 U)] (.one (.int .i64 r))):=by
 induction n with
 |zero=>exact fun _ _ r h=>(by cases h)
 |succ n ih=>
  have aa:=ih
  exact fun _ _ r h=>zx6 aa h
theorem zzw {p:xrw} {e:xrx} {r:Int} (h:zvd p e=some r):Pu Tryz.prog 100 [.agg (xr5 p),.agg (xr3 e)] (.one (.int .i64 r)):=(zx5 1000000) _ _ _ h
theorem zoy {p:xrw} {e:xrx} {r:Int×Bool} (h:zjx p e=some r):
  Pu Tryz.prog 65 [.agg (xr5 p),.agg (xr3 e)] (.tup [.one (.int .i64 r.1),.one (.bool r.2)]):=by
 have F:=trivial;have R:=trivial
 refine pA Tryz.func65 ?_;simp only[Tryz.f65];unfold zjx at h;refine bi h fun U h I=>?_;refine tr ?_;intros;refine cS (zzw I) ?_;cases h;exact fin
theorem zwa {op:Int} {kind:Int} {a:Int} {r:Int} (h:zlf op kind a=some r):
  Pu Tryz.prog 66 [.one (.int .i64 op),.one (.int .i64 kind),.one (.int .i64 a)] (.one (.int .i64 r)):=by
 have F:=trivial;have R:=trivial
 refine pA Tryz.func66 ?_;simp only[Tryz.f66];unfold zlf at h;refine bi h fun ab h I=>?_;refine tr ?_;intros;refine cS (zph I) ?_;refine fi h F ?_ ?_<;>intro h _ F;cases h;exact fin;refine bi h fun ad h U=>?_;refine tr ?_;intros;refine cS (za0 U) ?_;refine fi h F ?_ ?_<;>intro h _ F;refine bi h fun ae h aa=>?_;refine tr ?_;intros;refine cS (za0 aa) ?_;cases h;exact fin;refine tt ?_;refine fi h F ?_ ?_<;>intro h _ F
 refine fi h F ?_ ?_<;>intro h _ F;cases h;exact fin;cases h;exact fin;cases h;exact fin
theorem zzj {op:Int} {a:Int} {b:Int} {r:Int} (h:zm4 op a b=some r):
  Pu Tryz.prog 102 [.one (.int .i64 op),.one (.int .i64 a),.one (.int .i64 b)] (.one (.int .i64 r)):=by
 have F:=trivial;have R:=trivial
 refine pA Tryz.func102 ?_;simp only[Tryz.f102];unfold zm4 at h;refine fi h F ?_ ?_<;>intro h _ F;refine bi h fun af h I=>?_;refine tr ?_;intros;refine cS (zk2 I) ?_;cases h;exact fin;refine fi h F ?_ ?_<;>intro h _ F;refine bi h fun ai h U=>?_;refine tr ?_;intros;refine cS (zk2 U) ?_;cases h;exact fin;refine tt ?_;refine fi h F ?_ ?_<;>intro h _ F;refine bi h fun aj h aa=>?_;refine tr ?_
 intros;refine cS (zk2 aa) ?_;cases h;exact fin;refine fi h F ?_ ?_<;>intro h _ F;refine bi h fun ak h ab=>?_;refine tr ?_;intros;refine cS (zk2 ab) ?_;cases h;exact fin;refine fi h F ?_ ?_<;>intro h _ F;refine bi h fun al h ad=>?_;refine tr ?_;intros;refine cS (zk2 ad) ?_;cases h;exact fin;refine bi h fun an h ae=>?_;refine tr ?_;intros;refine cS (zk2 ae) ?_;cases h;exact fin
theorem zz3 {op:Int} {kind:Int} {a:Int} {b:Int} {r:Int×Int} (h:zmi op kind a b=some r):
  Pu Tryz.prog 67 [.one (.int .i64 op),.one (.int .i64 kind),.one (.int .i64 a),.one (.int .i64 b)] (.tup [.one (.int .i64 r.1),.one (.int .i64 r.2)]):=by
 have F:=trivial;have R:=trivial
 refine pA Tryz.func67 ?_;simp only[Tryz.f67];unfold zmi at h;refine fi h F ?_ ?_<;>intro h _ F;cases h;exact fin;refine tt ?_;refine fi h F ?_ ?_<;>intro h _ F;cases h;exact fin;refine bi h fun ax h af=>?_;refine tr ?_;intros;refine cS (zph af) ?_;refine fi h F ?_ ?_<;>intro h _ F;cases h;exact fin;refine bi h fun ay h ai=>?_;refine tr ?_;intros;refine cS (za0 ai) ?_;refine bi h fun az h aj=>?_
 refine tr ?_;intros;refine cS (za0 aj) ?_;refine fi h F ?_ ?_<;>intro h _ F;refine bi h fun aA h ak=>?_;refine tr ?_;intros;refine cS (za0 ak) ?_;cases h;exact fin;refine tt ?_;refine fi h F ?_ ?_<;>intro h _ F;refine fi h F ?_ ?_<;>intro h _ F;cases h;exact fin;refine nd h F fun h F=>?_;refine tr ?_;intros;refine fi h F ?_ ?_<;>intro h _ F;exact(by omega:False).elim;refine bi h fun aB h al=>?_
 refine tr ?_;intros;refine cS (za0 al) ?_;cases h;exact fin;refine fi h F ?_ ?_<;>intro h _ F;refine fi h F ?_ ?_<;>intro h _ F;cases h;exact fin;refine nd h F fun h F=>?_;refine nd h F fun h F=>?_;refine bi h fun aC h an=>?_;refine tr ?_;intros;refine cS (za0 an) ?_;cases h;exact fin;refine fi h F ?_ ?_<;>intro h _ F;refine bi h fun ao h I=>?_;refine tr ?_;intros;refine cS (za0 I) ?_
 cases h;exact fin;refine fi h F ?_ ?_<;>intro h _ F;refine bi h fun aq h U=>?_;refine tr ?_;intros;refine cS (za0 U) ?_;cases h;exact fin;refine tt ?_;refine fi h F ?_ ?_<;>intro h _ F;refine bi h fun ar h aa=>?_;refine tr ?_;intros;refine cS (za0 aa) ?_;cases h;exact fin;refine fi h F ?_ ?_<;>intro h _ F;refine bi h fun au h ab=>?_;refine tr ?_;intros;refine cS (za0 ab) ?_;cases h;exact fin
 refine fi h F ?_ ?_<;>intro h _ F;refine bi h fun av h ad=>?_;refine tr ?_;intros;refine cS (za0 ad) ?_;cases h;exact fin;refine bi h fun aw h ae=>?_;refine tr ?_;intros;refine cS (zzj ae) ?_;cases h;exact fin
end Go.Lz

end
section
namespace Go.Lz
section
variable {σ ρ:Type} {f:σ->Option (σ⊕ρ)}
theorem z2u (S:Nat->σ) (n:Nat) (step:∀i,i<n->f (S i)=some (.inl (S (i+1)))):∀k,k<=n->loop f (S 0)=loop f (S k)
 |0,_=>rfl
 |k+1,h=>by rw[z2u S n step k (by omega),zjv (step k (by omega))]
theorem zum (S:Nat->σ) (n:Nat) (r:ρ) (step:∀i,i<n->f (S i)=some (.inl (S (i+1)))) (last:f (S n)=some (.inr r)):loop f (S 0)=some r:=by
 rw[z2u S n step n (Nat.le_refl n),zcj last]
theorem zln (I:σ->Prop) (R:ρ->Prop) (μ:σ->Nat) (step:∀s,I s->(∃s',f s=some (.inl s')/\I s'/\μ s'<μ s)\/(∃r,f s=some (.inr r)/\R r)) (s:σ) (h:I s):∃r,loop f s=some r/\R r:=by
 induction hm:μ s using Nat.strongRecOn generalizing s with
 |ind m U=>
  subst hm
  rcases step s h with⟨s',e,hi,hl⟩|⟨r,e,hr⟩
  ·obtain⟨r,e2,hr⟩:=U (μ s') hl s' hi rfl
   exact⟨r,by rw[zjv e,e2],hr⟩
  ·exact⟨r,zcj e,hr⟩
theorem z9w {ρ:Type} {f:Nat->Option (Nat⊕ρ)} (n:Nat) (g:Nat->Option ρ) (d:ρ) (step:∀i,i<n->f i=some (match g i with|some r=>.inr r|none=>.inl (i+1))) (last:f n=some (.inr d)):
  loop f 0=some (((List.range n).findSome? g).getD d):=by
 have key:∀k,k<=n->loop f (n-k)=some ((((List.range n).drop (n-k)).findSome? g).getD d):=by
  intro k
  induction k with
  |zero=>
   intro _;rw[Nat.sub_zero,zcj last,List.drop_eq_nil_of_le (by simp)];rfl
  |succ k ih=>
   intro hk
   have hd:(List.range n).drop (n-(k+1))=(n-(k+1))::(List.range n).drop (n-k):=by
    rw[List.drop_eq_getElem_cons (by simp;omega)]
    congr 1
    ·simp
    ·congr 1;omega
   rw[hd,List.findSome?_cons]
   have I:=step (n-(k+1)) (by omega)
   cases U:g (n-(k+1))with
   |some r=>rw[U]at I;rw[zcj I];rfl
   |none=>
    rw[U]at I;rw[zjv I,show n-(k+1)+1=n-k by omega,ih (by omega)]
 have:=key n (Nat.le_refl n)
 simpa using this
end
theorem zkd {ρ:Type} {f:Nat->Option (Nat⊕ρ)} (n:Nat) (p:Nat->Bool) (v:Nat->ρ) (d:ρ) (step:∀i,i<n->f i=some (if p i then .inr (v i)else .inl (i+1))) (last:f n=some (.inr d)):
  loop f 0=some (((List.range n).find? p).elim d v):=by
 rw[z9w n (fun i=>if p i then some (v i)else none) d (fun i hi=>by rw[step i hi];cases p i<;>rfl) last]
 congr 1
 induction List.range n with
 |nil=>rfl
 |cons x xs I=>
  rw[List.findSome?_cons,List.find?_cons]
  cases p x with
  |true=>rfl
  |false=>simpa using I
theorem ydu {ρ:Type} {p q:Nat->Bool} {a b:ρ} (h:∀x,q x= !p x) (xs:List Nat):(xs.find? p).elim a (fun _=>b)=if xs.all q then a else b:=by
 induction xs with
 |nil=>rfl
 |cons x xs I=>
  rw[List.find?_cons,List.all_cons,h x]
  cases p x with
  |true=>rfl
  |false=>simpa using I
theorem ztj {f:Bool×Nat->Option ((Bool×Nat)⊕Bool)} (n:Nat) (p:Nat->Bool) (h1:∀d,d<n->f (true,d)=some (.inl (p d,d+1))) (h2:∀d,d<n->f (false,d)=some (.inr false)) (h3:∀b,f (b,n)=some (.inr b)) (ok:Bool):
  loop f (ok,0)=some (ok&&(List.range n).all p):=by
 have key:∀k,k<=n->∀b,loop f (b,n-k)=some (b&&((List.range n).drop (n-k)).all p):=by
  intro k
  induction k with
  |zero=>intro _ b;rw[Nat.sub_zero,zcj (h3 b),List.drop_eq_nil_of_le (by simp)];simp
  |succ k I=>
   intro hk b
   have U:(List.range n).drop (n-(k+1))=(n-(k+1))::(List.range n).drop (n-k):=by
    rw[List.drop_eq_getElem_cons (by simp;omega)]
    congr 1
    ·simp
    ·congr 1;omega
   cases b with
   |false=>rw[zcj (h2 _ (by omega))];simp
   |true=>
    rw[zjv (h1 _ (by omega)),show n-(k+1)+1=n-k by omega,I (by omega),U,List.all_cons];simp
 have:=key n (Nat.le_refl n) ok
 simpa using this
theorem zwo:∀{xs:List Bool} {i:Nat},xs[i]? =some false->(xs.set i true).count false+1=xs.count false
 |[],i,h=>by simp at h
 |x::xs,0,h=>by simp at h;subst h;simp
 |x::xs,i+1,h=>by
  simp at h
  have:=zwo (xs:=xs) (i:=i) (by simpa using h)
  simp only[List.set_cons_succ,List.count_cons];omega
end Go.Lz

end
section


end
section


end
section


end
section


end
section
namespace Go.Lz
theorem z3l {α:Type} {xs:List α} {i:Nat} (h:i<xs.length):xs.drop i=xs[i]::xs.drop (i+1):=List.drop_eq_getElem_cons h
theorem z9v {α ρ:Type} {xs:List α} {g:α->Option ρ} {d:ρ} {f:Nat->Option (Nat⊕ρ)} (step:∀i (h:i<xs.length),f i=some (match g xs[i]with|some r=>.inr r|none=>.inl (i+1))) (last:f xs.length=some (.inr d)):
  loop f 0=some ((xs.findSome? g).getD d):=by
 have key:∀k i,xs.length-i=k->i<=xs.length->loop f i=some (((xs.drop i).findSome? g).getD d):=by
  intro k
  induction k with
  |zero=>
   intro i hk hi
   have:i=xs.length:=by omega
   subst this;rw[zcj last,List.drop_length];rfl
  |succ k ih=>
   intro i hk hi
   have U:i<xs.length:=by omega
   have I:=step i U
   rw[z3l U,List.findSome?_cons]
   cases hg:g xs[i]with
   |some r=>rw[hg]at I;rw[zcj I];rfl
   |none=>rw[hg]at I;rw[zjv I,ih (i+1) (by omega) (by omega)]
 exact key _ 0 rfl (Nat.zero_le _)
theorem zq1 {α ρ:Type} {xs:List α} {p:α->Bool} {a b:ρ} {f:Nat->Option (Nat⊕ρ)} (step:∀i (h:i<xs.length),f i=some (if p xs[i]then .inl (i+1)else .inr a)) (last:f xs.length=some (.inr b)):
  loop f 0=some (if xs.all p then b else a):=by
 rw[z9v (g:=fun x=>if p x then none else some a) (d:=b) (fun i h=>by rw[step i h];cases p xs[i]<;>rfl) last]
 congr 1
 clear step last
 induction xs with
 |nil=>rfl
 |cons x xs I=>
  rw[List.findSome?_cons,List.all_cons]
  cases p x with
  |true=>simpa using I
  |false=>rfl
end Go.Lz

end
section
namespace Go.Lz
def Tot {α:Type} (x:Option α) (Q:α->Prop):Prop:=∃r,x=some r/\Q r
section
variable {α β:Type} {x:Option α} {Q:α->Prop} {f:α->Option β} {R:β->Prop}
theorem Tot.bind (h:Tot x Q) (k:∀a,Q a->Tot (f a) R):Tot (x.bind f) R:=by
 obtain⟨a,rfl,hq⟩:=h;exact k a hq
theorem Tot.need {p:Prop} [Decidable p] (h:p) (k:Tot x Q):Tot (need p x) Q:=by rw[zf3 h];exact k
theorem Tot.ite {c:Prop} [Decidable c] {y:Option α} (a:c->Tot x Q) (b:¬c->Tot y Q):Tot (if c then x else y) Q:=by
 by_cases h:c
 ·rw[if_pos h];exact a h
 ·rw[if_neg h];exact b h
theorem Tot.mk {a:α} (h:Q a):Tot (some a) Q:=⟨a,rfl,h⟩
theorem Tot.imp {I:α->Prop} (h:Tot x Q) (k:∀a,Q a->I a):Tot x I:=by
 obtain⟨a,rfl,hq⟩:=h;exact⟨a,rfl,k a hq⟩
theorem Tot.get {xs:List α} {i:Nat} (h:i<xs.length):Tot xs[i]? (fun a=>a∈xs/\a=xs[i]):=⟨xs[i],List.getElem?_eq_getElem h,List.getElem_mem h,rfl⟩
theorem Tot.idx {xs:List α} {i:Int} (h0:0<=i) (h:i<xs.length):Tot (idx xs i) (fun a=>a∈xs):=by
 have:i.toNat<xs.length:=by omega
 exact⟨xs[i.toNat],by unfold Lz.idx;rw[if_pos h0];exact List.getElem?_eq_getElem this,List.getElem_mem this⟩
end
section
variable {σ ρ:Type} {f:σ->Option (σ⊕ρ)}
def Rd (I:σ->Prop) (R:ρ->Prop) (μ:σ->Nat) (m:Nat):σ⊕ρ->Prop
 |.inl s=>I s/\μ s<m
 |.inr r=>R r
theorem Tot.loop (I:σ->Prop) {R:ρ->Prop} (μ:σ->Nat) {s:σ} (h:I s) (step:∀s,I s->Tot (f s) (Rd I R μ (μ s))):Tot (loop f s) R:=by
 refine zln I R μ (fun s hs=>?_) s h;obtain⟨o,U,hq⟩:=step s hs
 cases o with
 |inl s'=>exact .inl ⟨s',U,hq⟩
 |inr r=>exact .inr ⟨r,U,hq⟩
end
theorem zhv {n:Int} (h1:-9223372036854775808<=n) (h2:n<=9223372036854775807):w64 n=n:=by rw[znw];omega
end Go.Lz

end
section
namespace Go.Lz
theorem z6c (c:Int):Tot (zdo c) fun _=>True:=by
 unfold zdo
 repeat' (first|exact Tot.mk trivial|refine Tot.ite (fun _=>?_) (fun _=>?_))
theorem yii (c:Int):Tot (zfu c) fun _=>True:=by
 unfold zfu
 repeat' (first|exact Tot.mk trivial|refine Tot.ite (fun _=>?_) (fun _=>?_))
theorem yo1 (s:Str):Tot (zh5 s) fun _=>True:=by
 unfold zh5;refine Tot.ite (fun _=>Tot.mk trivial) fun U=>?_
 have hl:0<s.length:=by cases s with|nil=>exact(U rfl).elim|cons a b=>simp
 refine(Tot.get hl).bind fun c _=>(z6c _).bind fun b _=>Tot.ite (fun _=>?_) (fun _=>Tot.mk trivial);refine Tot.bind (Tot.loop (fun i=>i<=s.length) (R:=fun _=>True) (fun i=>s.length-i) (by omega) fun i hi=>?_) fun _ _=>Tot.mk trivial;unfold zj8;refine Tot.ite (fun h=>?_) fun _=>Tot.mk trivial
 have I:i<s.length:=by omega
 refine(Tot.get I).bind fun c _=>(z6c _).bind fun b _=>Tot.ite (fun _=>Tot.mk ⟨I,by simp only;omega⟩) fun _=>(yii _).bind fun b _=>Tot.ite (fun _=>Tot.mk ⟨I,by simp only;omega⟩) fun _=>Tot.mk trivial
theorem ybv (s names:Str) (hn:names.length<=1000000):Tot (zeb s names) fun b=>b=true->s.length<=names.length:=by
 unfold zeb
 refine Tot.bind (Tot.loop (fun x=>0<=x.1/\x.1<=(x.2:Int)/\x.2<=names.length+1) (R:=fun r=>match r with|.inl b=>b=true->s.length<=names.length|.inr ()=>True) (fun x=>names.length+1-x.2) ⟨by simp,by simp,by simp⟩ fun⟨k,i⟩ ⟨h0,h1,h2⟩=>?_) fun r hr=>by
  cases r with
  |inl r=>exact Tot.mk hr
  |inr r=>exact Tot.mk (by simp)
 simp only at h0 h1 h2;unfold zi5;refine Tot.ite (fun h=>?_) fun _=>Tot.mk trivial
 have e:w64 ((i:Int)+1)=(i:Int)+1:=zhv (by omega) (by omega)
 have go:Tot (some (Sum.inl (w64 ((i:Int)+1),i+1)):Option ((Int×Nat)⊕(Bool⊕Unit))) (Rd (fun x=>0<=x.1/\x.1<=(x.2:Int)/\x.2<=names.length+1) (fun r=>match r with|.inl b=>b=true->s.length<=names.length|.inr ()=>True) (fun x=>names.length+1-x.2) (names.length+1-i)):=
  Tot.mk ⟨⟨by rw[e];simp only;omega,by rw[e];simp only;omega,by simp only;omega⟩,by simp only;omega⟩
 have st:Tot (if k<(i:Int)then need (0<=k/\k<=(i:Int)/\(i:Int)<=names.length) (if((names.take i).drop k.toNat)=s then(some (Sum.inr (Sum.inl (true))))else(some (Sum.inl ((w64 ((i:Int)+1)),(i+1)))))else(some (Sum.inl ((w64 ((i:Int)+1)),(i+1)))):Option ((Int×Nat)⊕(Bool⊕Unit))) (Rd (fun x=>0<=x.1/\x.1<=(x.2:Int)/\x.2<=names.length+1) (fun r=>match r with|.inl b=>b=true->s.length<=names.length|.inr ()=>True) (fun x=>names.length+1-x.2) (names.length+1-i)):=
  Tot.ite (fun _=>Tot.need ⟨h0,h1,h⟩ (Tot.ite (fun I=>Tot.mk fun _=>by rw[<-I];simp only[List.length_drop,List.length_take];omega) fun _=>go)) fun _=>go
 refine Tot.ite (fun _=>st) fun U=>?_;refine(Tot.get (by omega)).bind fun c _=>Tot.ite (fun _=>st) fun _=>Tot.mk ⟨⟨h0,by simp only;omega,by simp only;omega⟩,by simp only;omega⟩
set_option maxRecDepth 20000 in
theorem yi9 (s:Str):Tot (zg3 s) fun _=>True:=by
 unfold zg3;exact(ybv s _ (Nat.le_of_ble_eq_true rfl)).bind fun _ _=>Tot.mk trivial
theorem yfs (s:Str):Tot (zft s) fun _=>True:=by
 unfold zft;refine Tot.bind (Tot.loop (fun x=>x.2<=x.1.length) (R:=fun _=>True) (fun x=>x.1.length-x.2) (Nat.zero_le _) fun⟨b,i⟩ h=>?_) fun _ _=>Tot.mk trivial;simp only at h;unfold zi4;refine Tot.ite (fun U=>?_) fun _=>Tot.mk trivial
 have I:i<b.length:=by omega
 exact(Tot.get I).bind fun x _=>Tot.ite (fun _=>Tot.ite (fun _=>Tot.mk ⟨by simp only[List.length_set];omega,by simp only[List.length_set];omega⟩) fun _=>Tot.mk ⟨I,by simp only;omega⟩) fun _=>Tot.mk ⟨I,by simp only;omega⟩
theorem ztg (s:Str):Tot (zat s) fun b=>b=true->s.length<=32/\s≠[]:=by
 unfold zat
 refine Tot.ite (fun _=>Tot.mk fun h=>by cases h) fun h1=>Tot.ite (fun h2=>?_) fun _=>Tot.mk fun h=>by cases h
 exact(yo1 s).bind fun _ _=>Tot.ite (fun _=>(yfs s).bind fun _ _=>(yi9 _).bind fun _ _=>Tot.mk fun _=>⟨by omega,h1⟩) fun _=>Tot.mk fun h=>by cases h
theorem znt (n:Int) (h0:0<=n) (h1:n<10000000000):Tot (zaw n) fun r=>r.length<=11:=by
 unfold zaw
 have one:∀(m:Nat),m<10->((([48,49,50,51,52,53,54,55,56,57]:Str).take (m+1)).drop m).length=1:=by decide
 refine Tot.bind (Tot.loop (fun x=>0<=x.1/\x.1.toNat*10^x.2.length<10000000000/\x.2.length<=10) (R:=fun x=>0<=x.1/\x.1<10/\x.2.length<=10) (fun x=>x.1.toNat) ⟨h0,by simp;omega,by simp⟩ fun⟨n,s⟩ ⟨a0,a1,a2⟩=>?_) fun⟨n,s⟩ ⟨a0,a1,a2⟩=>?_
 ·simp only at a0 a1 a2
  unfold zic;refine Tot.ite (fun h=>?_) fun h=>Tot.mk ?_
  ·obtain⟨m,rfl⟩:∃m:Nat,n=m:=⟨n.toNat,by omega⟩
   have hs:s.length<10:=by
    have:10*10^s.length<=m*10^s.length:=Nat.mul_le_mul_right _ (by omega)
    have:10^s.length<10^10:=by simp only[Int.toNat_natCast]at a1;omega
    exact(Nat.pow_lt_pow_iff_right (by decide)).1 this
   have hm:m<10000000000:=by
    have:1<=10^s.length:=Nat.one_le_pow _ _ (by decide)
    have:m*1<=m*10^s.length:=Nat.mul_le_mul_left _ this
    simp only[Int.toNat_natCast]at a1;omega
   have U:(m:Int).tmod 10=((m%10:Nat):Int):=by rw[Int.tmod_eq_emod_of_nonneg (by omega)];omega
   have ed:(m:Int).tdiv 10=((m/10:Nat):Int):=by rw[Int.tdiv_eq_ediv_of_nonneg (by omega)];omega
   have I:w64 (((m%10:Nat):Int)+1)=((m%10+1:Nat):Int):=by rw[zhv (by omega) (by omega)];omega
   have e2:w64 ((m/10:Nat):Int)=((m/10:Nat):Int):=zhv (by omega) (by omega)
   rw[U,ed,I,e2];refine Tot.need ⟨by omega,by omega,by omega⟩ (Tot.need ?_ (Tot.mk ⟨⟨?_,?_,?_⟩,?_⟩))
   ·rw[Int.toNat_natCast,Int.toNat_natCast,one _ (by omega)];omega
   ·simp only;omega
   ·simp only[Int.toNat_natCast,List.length_append]
    rw[one _ (by omega),Nat.add_comm 1,Nat.pow_succ];simp only[Int.toNat_natCast]at a1
    have:m/10*(10^s.length*10)<=m*10^s.length:=by
     rw[Nat.mul_comm (10^s.length) 10,<-Nat.mul_assoc];exact Nat.mul_le_mul_right _ (Nat.div_mul_le_self m 10)
    omega
   ·simp only[Int.toNat_natCast,List.length_append]
    rw[one _ (by omega)];omega
   ·simp only[Int.toNat_natCast];omega
  ·exact⟨a0,by simp only;omega,a2⟩
 ·simp only at a0 a1 a2|-
  obtain⟨m,rfl⟩:∃m:Nat,n=m:=⟨n.toNat,by omega⟩
  have I:w64 ((m:Int)+1)=((m+1:Nat):Int):=by rw[zhv (by omega) (by omega)];omega
  rw[I];refine Tot.need ⟨by omega,by omega,by omega⟩ (Tot.need ?_ (Tot.mk ?_))
  ·rw[Int.toNat_natCast,Int.toNat_natCast,one _ (by omega)];omega
  ·rw[List.length_append,Int.toNat_natCast,Int.toNat_natCast,one _ (by omega)];omega
end Go.Lz

end
section
namespace Go.Lz
mutual
def depE:xrx->Nat
 |⟨_,_,_,_,args⟩=>zng args+1
def zng:List xrx->Nat
 |[]=>0
 |e::es=>max (depE e) (zng es)
end
mutual
def depS:xry->Nat
 |⟨_,_,target,value,args,body,I⟩=>max (max (depE target) (depE value)) (max (zng args) (max (zf1 body) (zf1 I)))+1
def zf1:List xry->Nat
 |[]=>0
 |e::es=>max (depS e) (zf1 es)
end
theorem zdv (e:xrx):depE e=zng e.Args+1:=by cases e;rw[depE]
theorem zt7 (s:xry):depS s=max (max (depE s.Target) (depE s.Value)) (max (zng s.Args) (max (zf1 s.Body) (zf1 s.Else)))+1:=by cases s;rw[depS]
theorem z3m:∀{l m:List xrx},zng (l++m)=max (zng l) (zng m)
 |[],m=>by simp[zng]
 |e::es,m=>by rw[List.cons_append,zng,zng,z3m (l:=es)];omega
theorem zf2:∀{l:List xrx} {x:xrx},x∈l->depE x<=zng l
 |e::es,x,I=>by
  rw[zng]
  rcases List.mem_cons.1 I with rfl|I
  ·omega
  ·have:=zf2 I;omega
theorem zm8:∀{l:List xry} {x:xry},x∈l->depS x<=zf1 l
 |e::es,x,I=>by
  rw[zf1]
  rcases List.mem_cons.1 I with rfl|I
  ·omega
  ·have:=zm8 I;omega
mutual
def szE:xrx->Nat
 |⟨_,_,_,_,args⟩=>szEs args+1
def szEs:List xrx->Nat
 |[]=>0
 |e::es=>szE e+szEs es
end
theorem zu1 (e:xrx):szE e=szEs e.Args+1:=by cases e;rw[szE]
theorem z5n:∀{l m:List xrx},szEs (l++m)=szEs l+szEs m
 |[],m=>by simp[szEs]
 |e::es,m=>by rw[List.cons_append,szEs,szEs,z5n (l:=es)];omega
theorem zoq:∀{l:List xrx} {x:xrx},x∈l->szE x<=szEs l
 |e::es,x,I=>by
  rw[szEs]
  rcases List.mem_cons.1 I with rfl|I
  ·omega
  ·have:=zoq I;omega
end Go.Lz

end
section
namespace Go.Lz
mutual
def fmE:xrx->Prop
 |⟨op,N,K,name,args⟩=>zbu ⟨op,N,K,name,args⟩=some true/\fmEs args
def fmEs:List xrx->Prop
 |[]=>True
 |e::es=>fmE e/\fmEs es
end
theorem zwe (e:xrx):fmE e=(zbu e=some true/\fmEs e.Args):=by cases e;rw[fmE]
theorem z6l:∀{l m:List xrx},fmEs (l++m)↔fmEs l/\fmEs m
 |[],m=>by simp[fmEs]
 |e::es,m=>by rw[List.cons_append,fmEs,fmEs,z6l (l:=es),and_assoc]
theorem zkx:∀{l:List xrx},fmEs l->∀x∈l,fmE x
 |[],_,x,I=>by cases I
 |e::es,h,x,I=>by
  rw[fmEs]at h
  rcases List.mem_cons.1 I with rfl|I
  ·exact h.1
  ·exact zkx h.2 x I
structure yi4 (e:xrx):Prop where
 name:e.Name.length<=32
 n0:0<=e.N
 n1:e.N<=2147483647
 ops:(e.Op=1/\e.Args.length=0/\(e.Kind=1\/e.Kind=2\/e.Kind=3\/e.Kind=4))\/(e.Op=2/\e.Args.length=0)\/(e.Op=4/\e.Args.length=0)\/(e.Op=3/\e.Args.length=1)\/(e.Op=21/\e.Args.length=1)\/(e.Op=5/\e.Args.length=1)\/(e.Op=6/\e.Args.length=1)\/(7<=e.Op/\e.Op<=20/\e.Args.length=2)
theorem yev (e:xrx):Tot (zbu e) fun b=>b=true->yi4 e:=by
 have no:∀{Q:Prop},Tot (some false) fun b=>b=true->Q:=Tot.mk fun h=>by cases h
 have I:e.Name=[]->e.Name.length<=32:=fun h=>by rw[h];exact Nat.zero_le _
 unfold zbu;refine Tot.ite (fun o1=>?_) fun o1=>?_
 ·refine Tot.ite (fun n0=>?_) fun _=>no
  have fin:∀{m:Int},m<=2147483647->(e.Kind=1\/e.Kind=2\/e.Kind=3\/e.Kind=4)->Tot (if e.N<=m then(if(e.Args.length:Int)=0 then(some (decide (e.Name=[])))else(some false))else(some false)) fun b=>b=true->yi4 e:=fun hm hk=>
   Tot.ite (fun n1=>Tot.ite (fun a0=>Tot.mk fun h=>⟨I (of_decide_eq_true h),n0,by omega,.inl ⟨o1,by omega,hk⟩⟩) fun _=>no) fun _=>no
  refine Tot.ite (fun k=>Tot.ite (fun n1=>Tot.ite (fun a0=>Tot.mk fun h=>⟨I (of_decide_eq_true h),n0,by omega,.inl ⟨o1,by omega,.inl k⟩⟩) fun _=>no) fun _=>Tot.ite (fun U=>by omega) fun _=>Tot.ite (fun U=>by omega) fun _=>Tot.ite (fun U=>by omega) fun _=>no) fun k1=>?_;refine Tot.ite (fun k=>Tot.ite (fun n1=>Tot.ite (fun a0=>Tot.mk fun h=>⟨I (of_decide_eq_true h),n0,by omega,.inl ⟨o1,by omega,.inr (.inl k)⟩⟩) fun _=>no) fun _=>Tot.ite (fun U=>by omega) fun _=>Tot.ite (fun U=>by omega) fun _=>no) fun U=>?_
  exact Tot.ite (fun k=>fin (by decide) (.inr (.inr (.inl k)))) fun k3=>Tot.ite (fun k=>fin (by decide) (.inr (.inr (.inr k)))) fun _=>no
 ·refine Tot.ite (fun k0=>?_) fun _=>no
  refine Tot.ite (fun o=>Tot.ite (fun a=>Tot.ite (fun n=>(ztg _).bind fun b hb=>Tot.mk fun h=>⟨(hb h).1,by omega,by omega,.inr (.inl ⟨o,by omega⟩)⟩) fun _=>no) fun _=>no) fun o2=>?_;refine Tot.ite (fun o=>Tot.ite (fun a=>Tot.ite (fun n=>Tot.ite (fun n'=>(ztg _).bind fun b hb=>Tot.mk fun h=>⟨(hb h).1,by omega,by omega,.inr (.inr (.inl ⟨o,by omega⟩))⟩) fun _=>no) fun _=>no) fun _=>no) fun o4=>?_
  refine Tot.ite (fun o=>Tot.ite (fun a=>Tot.ite (fun n=>(ztg _).bind fun b hb=>Tot.mk fun h=>⟨(hb h).1,by omega,by omega,.inr (.inr (.inr (.inl ⟨o,by omega⟩)))⟩) fun _=>no) fun _=>no) fun o3=>?_;refine Tot.ite (fun o=>Tot.ite (fun a=>Tot.ite (fun n=>(ztg _).bind fun b hb=>Tot.mk fun h=>⟨(hb h).1,by omega,by omega,.inr (.inr (.inr (.inr (.inl ⟨o,by omega⟩))))⟩) fun _=>no) fun _=>no) fun aa=>?_
  refine Tot.ite (fun o=>Tot.ite (fun a=>Tot.ite (fun n=>Tot.mk fun h=>⟨I (of_decide_eq_true h),by omega,by omega,.inr (.inr (.inr (.inr (.inr (.inl ⟨o,by omega⟩)))))⟩) fun _=>no) fun _=>no) fun o5=>?_;refine Tot.ite (fun o=>Tot.ite (fun a=>Tot.ite (fun n=>Tot.mk fun h=>⟨I (of_decide_eq_true h),by omega,by omega,.inr (.inr (.inr (.inr (.inr (.inr (.inl ⟨o,by omega⟩))))))⟩) fun _=>no) fun _=>no) fun o6=>?_
  exact Tot.ite (fun o=>Tot.ite (fun o'=>Tot.ite (fun a=>Tot.ite (fun n=>Tot.mk fun h=>⟨I (of_decide_eq_true h),by omega,by omega,.inr (.inr (.inr (.inr (.inr (.inr (.inr ⟨o,o',by omega⟩))))))⟩) fun _=>no) fun _=>no) fun _=>no) fun _=>no
theorem zwd {e:xrx} (h:fmE e):yi4 e:=by
 rw[zwe]at h;obtain⟨b,hb,hq⟩:=yev e;rw[h.1]at hb;cases hb;exact hq rfl
theorem zqo {α:Type} {l:List α} {i:Nat} (h:i<l.length):l.take (i+1)=l.take i++[l[i]]:=by rw[List.take_add_one];simp[h]
theorem ybk:∀(d fuel:Nat),d<fuel->d<=1000->∀(e:xrx) (left:Int),left<=1000000->Tot (zc9 fuel e (d:Int) left) fun r=>r<=left/\-1<=r/\(0<=r->fmE e/\depE e<=d/\(szE e:Int)+r<=left)\/left<0/\r=-1
 |d,0,h,_,_,_,_=>by omega
 |0,fuel+1,_,_,e,left,_=>by
  unfold zc9 zeo
  exact Tot.ite (fun _=>Tot.mk (by omega)) fun h=>by omega
 |d+1,fuel+1,h,hd,e,left,hl=>by
  have e1:w64 (((d+1:Nat):Int)-1)=(d:Int):=by rw[zhv (by omega) (by omega)];omega
  unfold zc9 zeo;refine Tot.ite (fun h=>by omega) fun _=>Tot.ite (fun h=>Tot.mk (.inr ⟨h,rfl⟩)) fun ad=>?_;obtain⟨b,hb,_⟩:=yev e;rw[hb,Option.bind_some];refine Tot.ite (fun ab=>?_) fun _=>Tot.mk (.inl ⟨by omega,by omega,by omega⟩);subst ab;rw[zhv (n:=left-1) (by omega) (by omega)]
  refine Tot.bind (Tot.loop (fun x=>x.2<=e.Args.length/\x.1<=left-1/\-1<=x.1/\(0<=x.1->fmEs (e.Args.take x.2)/\zng (e.Args.take x.2)<=d/\(szEs (e.Args.take x.2):Int)+x.1<=left-1))
   (R:=fun r=>r<=left/\-1<=r/\(0<=r->fmE e/\depE e<=d+1/\(szE e:Int)+r<=left)) (fun x=>e.Args.length-x.2) ⟨by simp,by simp,by simp only;omega,fun _=>by simp[fmEs,zng,szEs]⟩ fun⟨l,i⟩ ⟨a0,a1,a2,a3⟩=>?_) fun r hr=>Tot.mk (.inl hr)
  simp only at a0 a1 a2 a3;unfold zi3;refine Tot.ite (fun hi=>?_) fun hi=>Tot.mk ⟨by omega,a2,fun h0=>?_⟩
  ·refine Tot.ite (fun h0=>?_) fun h0=>Tot.mk ⟨by omega,a2,by omega⟩
   have I:i<e.Args.length:=by omega
   refine(Tot.get I).bind fun x hx=>?_;rw[e1,hx.2];refine(ybk d fuel (by omega) (by omega) _ l (by omega)).bind fun r hr=>Tot.mk ⟨⟨I,?_,?_,fun aa=>?_⟩,by simp only;omega⟩
   ·simp only;omega
   ·simp only;omega
   ·simp only at aa|-
    obtain⟨U,b1,b2⟩:=a3 h0
    rcases hr with⟨_,_,hr⟩|⟨hr,_⟩
    ·obtain⟨c0,c1,c2⟩:=hr aa
     rw[zqo I,z6l,z3m,z5n];simp only[fmEs,zng,szEs];exact⟨⟨U,c0,trivial⟩,by omega,by omega⟩
    ·omega
  ·have:i=e.Args.length:=by omega
   subst this;obtain⟨U,b1,b2⟩:=a3 h0;rw[List.take_length]at U b1 b2;rw[zwe,zdv,zu1];exact⟨⟨hb,U⟩,by omega,by omega⟩
theorem yd5 (e:xrx):Tot (zkp e 24 16384) fun r=>0<=r->fmE e/\depE e<=24/\szE e<=16384:=
 (ybk 24 1000000 (by omega) (by omega) e 16384 (by omega)).imp fun r hr h0=>by
   rcases hr with⟨_,_,h⟩|⟨h,_⟩
   ·obtain⟨a,b,c⟩:=h h0;exact⟨a,b,by omega⟩
   ·omega
theorem z4l (op:Int):Tot (zc0 op) fun _=>True:=by
 unfold zc0
 repeat' (first|exact Tot.mk trivial|refine Tot.ite (fun _=>?_) (fun _=>?_))
theorem yf4 (l:Int):Tot (zfs l) fun r=>r.1.length<=14:=by
 unfold zfs
 repeat' (first|exact Tot.mk (by decide)|refine Tot.ite (fun _=>?_) (fun _=>?_))
theorem yjx (op:Int):Tot (zg2 op) fun r=>r.length<=14:=by
 unfold zg2;refine(z4l op).bind fun l _=>(yf4 l).bind fun x U=>?_
 obtain⟨names,first⟩:=x
 simp only at U
 refine Tot.bind (Tot.loop (fun x=>0<=x.2.1/\x.2.1<=(x.2.2:Int)/\x.2.2<=names.length+1) (R:=fun r=>match r with|.inl r=>r.length<=14|.inr ()=>True) (fun x=>names.length+1-x.2.2) ⟨by simp,by simp,by simp⟩ fun⟨k,fr,i⟩ ⟨h0,h1,h2⟩=>?_) fun r hr=>by
  cases r with
  |inl r=>exact Tot.mk hr
  |inr r=>exact Tot.mk (by simp)
 simp only at h0 h1 h2;unfold zjq;refine Tot.ite (fun h=>?_) fun _=>Tot.mk trivial;simp only at h
 have e:w64 ((i:Int)+1)=(i:Int)+1:=zhv (by omega) (by omega)
 have dl:((names.take i).drop fr.toNat).length<=14:=by simp only[List.length_drop,List.length_take];omega
 refine Tot.ite (fun _=>Tot.ite (fun _=>Tot.need ⟨h0,h1,h⟩ (Tot.mk dl)) fun _=>Tot.mk ⟨⟨by rw[e];simp only;omega,by rw[e];simp only;omega,by simp only;omega⟩,by simp only;omega⟩) fun I=>?_;simp only at I;exact(Tot.get (by simp only;omega)).bind fun c _=>Tot.ite (fun _=>Tot.ite (fun _=>Tot.need ⟨h0,h1,h⟩ (Tot.mk dl)) fun _=>Tot.mk ⟨⟨by rw[e];simp only;omega,by rw[e];simp only;omega,by simp only;omega⟩,by simp only;omega⟩) fun _=>Tot.mk ⟨⟨h0,by simp only;omega,by simp only;omega⟩,by simp only;omega⟩
theorem zyn {l:List xrx} {i:Nat} (h:i<l.length):Tot l[i]? fun x=>x∈l/\depE x<=zng l/\szE x<=szEs l:=
 (Tot.get h).imp fun x I=>⟨I.1,zf2 I.1,zoq I.1⟩
theorem z0w {l:List xrx} (h:l.length=2):∃a b,l=[a,b]:=by
 match l,h with
 |[a,b],_=>exact⟨a,b,rfl⟩
theorem yed:∀(n:Nat),(∀e,fmE e->2*depE e<=n->szE e<=1000000->Tot ((zaz n).1 e) fun r=>r.length<=64*szE e)/\(∀e least,fmE e->2*depE e+1<=n->szE e<=1000000->Tot ((zaz n).2 e least) fun r=>r.length<=64*szE e+2)
 |0=>⟨fun e _ h _=>by rw[zdv]at h;omega,fun e _ _ h _=>by omega⟩
 |n+1=>by
  obtain⟨ih1,ih2⟩:=yed n;constructor
  ·intro e ok hd I
   have F:=zwd ok
   rw[zwe]at ok;rw[zdv]at hd;rw[zu1]at I|-
   have hn:=F.name
   have aa:=F.n0
   have af:=F.n1
   show Tot (ze6 (zaz n).1 (zaz n).2 e) _
   unfold ze6;refine Tot.ite (fun o1=>?_) fun o1=>?_
   ·refine Tot.ite (fun _=>Tot.ite (fun _=>Tot.mk (by simp only[List.length_cons,List.length_nil];omega)) fun _=>Tot.mk (by simp only[List.length_cons,List.length_nil];omega)) fun _=>?_
    refine Tot.ite (fun _=>(znt _ aa (by omega)).bind fun r hr=>Tot.need (by omega) (Tot.need (by omega) (Tot.mk (by simp only[List.length_append,List.length_cons,List.length_nil];omega)))) fun _=>?_;refine Tot.ite (fun _=>(znt _ aa (by omega)).bind fun r hr=>Tot.need (by omega) (Tot.need (by omega) (Tot.mk (by simp only[List.length_append,List.length_cons,List.length_nil];omega)))) fun _=>?_
    exact(znt _ aa (by omega)).bind fun r hr=>Tot.mk (by omega)
   refine Tot.ite (fun _=>Tot.mk (by omega)) fun o2=>?_;refine Tot.ite (fun _=>Tot.need (by omega) ((znt _ aa (by omega)).bind fun r hr=>Tot.need (by omega) (Tot.mk (by simp only[List.length_append,List.length_cons,List.length_nil];omega)))) fun o4=>?_;refine Tot.ite (fun o=>?_) fun o3=>?_
   ·have hl:0<e.Args.length:=by have:=F.ops;omega
    refine Tot.need (by omega) ((zyn hl).bind fun x U=>(ih1 x (zkx ok.2 x U.1) (by omega) (by omega)).bind fun r hr=>Tot.need (by omega) (Tot.need (by omega) (Tot.mk (by simp only[List.length_append,List.length_cons,List.length_nil];omega))))
   refine Tot.ite (fun o=>?_) fun ai=>?_
   ·have hl:0<e.Args.length:=by have:=F.ops;omega
    refine Tot.need (by omega) (Tot.need (by omega) ((zyn hl).bind fun x U=>(ih1 x (zkx ok.2 x U.1) (by omega) (by omega)).bind fun r hr=>Tot.need (by omega) (Tot.need (by omega) (Tot.mk (by simp only[List.length_append,List.length_cons,List.length_nil];omega)))))
   refine Tot.ite (fun o=>?_) fun o5=>?_
   ·have hl:0<e.Args.length:=by have:=F.ops;omega
    exact(zyn hl).bind fun x U=>(ih2 x 7 (zkx ok.2 x U.1) (by omega) (by omega)).bind fun r hr=>Tot.need (by omega) (Tot.mk (by simp only[List.length_append,List.length_cons,List.length_nil];omega))
   refine Tot.ite (fun o=>?_) fun o6=>?_
   ·have hl:0<e.Args.length:=by have:=F.ops;omega
    exact(zyn hl).bind fun x U=>(ih2 x 7 (zkx ok.2 x U.1) (by omega) (by omega)).bind fun r hr=>Tot.need (by omega) (Tot.mk (by simp only[List.length_append,List.length_cons,List.length_nil];omega))
   have hl:e.Args.length=2:=by have:=F.ops;omega
   obtain⟨a,b,ab⟩:=z0w hl;rw[ab]at ok hd I|-;simp only[fmEs,zng,szEs]at ok hd I;obtain⟨_,ad,ae,_⟩:=ok;simp only[List.getElem?_cons_zero,List.getElem?_cons_succ,Option.bind_some,szEs];exact(z4l _).bind fun k _=>(ih2 a k ad (by omega) (by omega)).bind fun r hr=>Tot.need (by omega) ((yjx _).bind fun s I=>Tot.need (by omega) (Tot.need (by omega) ((ih2 b _ ae (by omega) (by omega)).bind fun r' aj=>Tot.need (by omega) (Tot.mk (by simp only[List.length_append,List.length_cons,List.length_nil];omega)))))
  ·intro e least ok hd I
   show Tot (ze7 (zaz n).1 (zaz n).2 e least) _
   unfold ze7;exact(z4l _).bind fun k _=>Tot.ite (fun _=>(ih1 e ok (by omega) I).bind fun r hr=>Tot.need (by omega) (Tot.need (by omega) (Tot.mk (by simp only[List.length_append,List.length_cons,List.length_nil];omega)))) fun _=>(ih1 e ok (by omega) I).bind fun r hr=>Tot.mk (by omega)
theorem yjs {e:xrx} (ok:fmE e) (U:depE e<=1000) (I:szE e<=1000000):Tot (zg1 e) fun r=>r.length<=64*szE e:=(yed 1000000).1 e ok (by omega) I
theorem ybf (e:xrx):Tot (zap e) fun b=>b=true->fmE e/\depE e<=24/\szE e<=16384/\∃t,zg1 e=some t/\t.length<=16384:=by
 unfold zap
 refine(yd5 e).bind fun r hr=>Tot.ite (fun h0=>?_) fun _=>Tot.mk fun h=>by cases h
 obtain⟨ok,I,U⟩:=hr h0;obtain⟨t,ht,hl⟩:=yjs ok (by omega) (by omega);rw[ht,Option.bind_some];exact Tot.mk fun h=>⟨ok,I,U,t,rfl,by have:=of_decide_eq_true h;omega⟩
theorem zqt (e:xrx):Tot (za3 e) fun t=>t.length<=16384:=by
 unfold za3;refine(ybf e).bind fun b hb=>Tot.ite (fun h=>?_) fun _=>Tot.mk (by simp);obtain⟨_,_,_,t,ht,hl⟩:=hb h;rw[ht,Option.bind_some];exact Tot.mk hl
theorem z3y (e:xrx):Tot (zdk e ⟨0,0,0,[],[]⟩) fun b=>b=true->e=⟨0,0,0,[],[]⟩:=by
 show Tot (zcp (zdn 999999) e _) _
 unfold zcp
 refine Tot.ite (fun h1=>Tot.ite (fun h2=>Tot.ite (fun h3=>Tot.ite (fun h4=>Tot.ite (fun h5=>?_) fun _=>Tot.mk fun h=>by cases h) fun _=>Tot.mk fun h=>by cases h) fun _=>Tot.mk fun h=>by cases h) fun _=>Tot.mk fun h=>by cases h) fun _=>Tot.mk fun h=>by cases h
 have I:e.Args.length=0:=by simpa using h5
 rw[zcj (r:=.inr ()) (by simp[zep,I]),Option.bind_some];refine Tot.mk fun _=>?_;obtain⟨op,N,K,name,args⟩:=e;simp only at h1 h2 h3 h4 I;rw[h1,h2,h3,h4,List.eq_nil_of_length_eq_zero I]
end Go.Lz

end
section
namespace Go.Lz
abbrev noE:xrx:=⟨0,0,0,[],[]⟩
mutual
def nS:xry->Nat
 |⟨_,_,_,_,_,body,I⟩=>nSs body+nSs I+1
def nSs:List xry->Nat
 |[]=>0
 |s::ss=>nS s+nSs ss
end
theorem ykt (s:xry):nS s=nSs s.Body+nSs s.Else+1:=by cases s;rw[nS]
theorem z1h:∀{l m:List xry},nSs (l++m)=nSs l+nSs m
 |[],m=>by simp[nSs]
 |e::es,m=>by rw[List.cons_append,nSs,nSs,z1h (l:=es)];omega
mutual
def fmS:xry->Prop
 |⟨kind,name,target,value,args,body,I⟩=>zcn ⟨kind,name,target,value,args,body,I⟩=some true/\fmSs body/\fmSs I
def fmSs:List xry->Prop
 |[]=>True
 |s::ss=>fmS s/\fmSs ss
end
theorem z3e (s:xry):fmS s=(zcn s=some true/\fmSs s.Body/\fmSs s.Else):=by cases s;rw[fmS]
theorem z6k:∀{l m:List xry},fmSs (l++m)↔fmSs l/\fmSs m
 |[],m=>by simp[fmSs]
 |e::es,m=>by rw[List.cons_append,fmSs,fmSs,z6k (l:=es),and_assoc]
theorem zwc:∀{l:List xry},fmSs l->∀x∈l,fmS x
 |[],_,x,I=>by cases I
 |e::es,h,x,I=>by
  rw[fmSs]at h
  rcases List.mem_cons.1 I with rfl|I
  ·exact h.1
  ·exact zwc h.2 x I
structure GoodE (e:xrx):Prop where
 ok:fmE e
 dep:depE e<=25
 sz:szE e<=20000
theorem yaq (e:xrx):Tot (zap e) fun b=>b=true->fmE e/\depE e<=24/\szE e<=16384:=
 (ybf e).imp fun b hb h=>⟨(hb h).1,(hb h).2.1,(hb h).2.2.1⟩
theorem z6h (e:xrx):Tot (zap e) fun b=>b=true->GoodE e:=
 (yaq e).imp fun b hb h=>⟨(hb h).1,by have:=(hb h).2.1;omega,by have:=(hb h).2.2;omega⟩
theorem yb9 (e:xrx):Tot (ze3 e) fun b=>b=true->GoodE e/\(e.Op=2\/(e.Op=3/\e.Args.length=1)):=by
 have no:∀{Q:Prop},Tot (some false) fun b=>b=true->Q:=Tot.mk fun h=>by cases h
 unfold ze3;refine Tot.ite (fun o=>(z6h e).bind fun b hb=>Tot.mk fun h=>⟨hb h,.inl o⟩) fun o2=>Tot.ite (fun I=>Tot.ite (fun a=>Tot.ite (fun n=>Tot.ite (fun k=>?_) fun _=>no) fun _=>no) fun _=>no) fun _=>no;obtain⟨b,hb,_⟩:=ztg e.Name;rw[hb,Option.bind_some];refine Tot.ite (fun U=>?_) fun _=>no;subst U;obtain⟨op,N,K,name,args⟩:=e;simp only at I a n k hb|-;subst I;subst n;subst k
 match args,a with
 |[x],_=>
  rw[List.getElem?_cons_zero,Option.bind_some];refine(yaq x).bind fun b hx=>Tot.mk fun h=>⟨?_,.inr ⟨rfl,rfl⟩⟩;obtain⟨g1,g2,g3⟩:=hx h;refine⟨?_,by simp only[depE,zng];omega,by simp only[szE,szEs];omega⟩;rw[fmE];refine⟨?_,g1,trivial⟩;simp[zbu,hb]
theorem z2q (e:xrx):Tot (zas e) fun b=>b=true->e=noE:=by
 unfold zas;exact(z3y e).bind fun b hb=>Tot.mk hb
theorem ye3 (l:List xrx):Tot (zco l) fun b=>b=true->∀x∈l,GoodE x:=by
 unfold zco
 refine Tot.bind (Tot.loop (fun i=>i<=l.length/\∀x∈l.take i,GoodE x) (R:=fun r=>match r with|.inl b=>b=true->∀x∈l,GoodE x|.inr ()=>∀x∈l,GoodE x) (fun i=>l.length-i) ⟨Nat.zero_le _,by simp⟩ fun i ⟨hi,hI⟩=>?_) fun r hr=>by
  cases r with
  |inl b=>exact Tot.mk hr
  |inr u=>exact Tot.mk fun _=>hr
 unfold zjp;refine Tot.ite (fun h=>?_) fun h=>Tot.mk ?_
 ·have I:i<l.length:=by omega
  refine(Tot.get I).bind fun x hx=>(z6h x).bind fun b hb=>Tot.ite (fun U=>Tot.mk ⟨⟨I,fun y hy=>?_⟩,by simp only;omega⟩) fun _=>Tot.mk fun h=>by cases h
  rw[zqo I]at hy
  rcases List.mem_append.1 hy with hy|hy
  ·exact hI y hy
  ·rw[List.mem_singleton]at hy;rw[hy,<-hx.2];exact hb U
 ·have:i=l.length:=by omega
  subst this;rwa[List.take_length]at hI
structure z3r (s:xry):Prop where
 name:s.Name.length<=32
 args:∀x∈s.Args,GoodE x
 alen:s.Args.length<=16384
 kinds:(s.Kind=1/\s.Body=[]/\s.Else=[]/\s.Args=[]/\GoodE s.Target/\(s.Target.Op=2\/(s.Target.Op=3/\s.Target.Args.length=1))/\GoodE s.Value)\/((s.Kind=2\/s.Kind=3)/\s.Args=[]/\s.Target=noE/\GoodE s.Value)\/(s.Kind=4/\s.Args.length=2/\s.Target=noE/\s.Value=noE)\/(s.Kind=5/\s.Body=[]/\s.Else=[]/\s.Target=noE/\s.Value=noE)
theorem nilL {α:Type} {l:List α} (h:(l.length:Int)=0):l=[]:=List.eq_nil_of_length_eq_zero (by omega)
theorem yav (s:xry):Tot (zcn s) fun b=>b=true->z3r s:=by
 have no:∀{Q:Prop},Tot (some false) fun b=>b=true->Q:=Tot.mk fun h=>by cases h
 have n0:∀{l:Str},l=[]->l.length<=32:=fun h=>by rw[h];exact Nat.zero_le _
 have a0:(s.Args.length:Int)=0->(∀x∈s.Args,GoodE x)/\s.Args.length<=16384:=fun h=>by rw[nilL h];exact⟨fun x hx=>(by cases hx),Nat.zero_le _⟩
 have I:(s.Kind=2\/s.Kind=3)->s.Name=[]->(s.Args.length:Int)=0->Tot ((zas s.Target).bind fun aa=>if aa=true then((zap s.Value).bind fun ab=>some ab)else(some false)) fun b=>b=true->z3r s:=fun k n a=>
  (z2q _).bind fun b hb=>Tot.ite (fun ht=>(z6h _).bind fun c hc=>Tot.mk fun h=>⟨n0 n,(a0 a).1,(a0 a).2,.inr (.inl ⟨k,nilL a,hb ht,hc h⟩)⟩) fun _=>no
 have k4:s.Kind=4->Tot ((zat s.Name).bind fun ad=>if ad=true then(if(s.Args.length:Int)=2 then((zco s.Args).bind fun ae=>if ae=true then(if(s.Else.length:Int)=0 then((zas s.Target).bind fun af=>if af=true then((zas s.Value).bind fun U=>some U)else(some false))else(some false))else(some false))else(some false))else(some false)) fun b=>b=true->z3r s:=fun k=>
  (ztg _).bind fun b1 h1=>Tot.ite (fun t1=>Tot.ite (fun l=>(ye3 _).bind fun b2 h2=>Tot.ite (fun t2=>Tot.ite (fun e=>(z2q _).bind fun b3 h3=>Tot.ite (fun t3=>(z2q _).bind fun b4 h4=>Tot.mk fun t4=>⟨(h1 t1).1,h2 t2,by omega,.inr (.inr (.inl ⟨k,by omega,h3 t3,h4 t4⟩))⟩) fun _=>no) fun _=>no) fun _=>no) fun _=>no) fun _=>no
 unfold zcn;refine Tot.ite (fun hb=>?_) fun hb=>?_
 ·refine Tot.ite (fun k=>Tot.ite (fun he=>Tot.ite (fun n=>Tot.ite (fun a=>(yb9 _).bind fun b1 h1=>Tot.ite (fun t1=>(z6h _).bind fun b2 h2=>Tot.mk fun t2=>⟨n0 n,(a0 a).1,(a0 a).2,.inl ⟨k,nilL hb,nilL he,nilL a,(h1 t1).1,(h1 t1).2,h2 t2⟩⟩) fun _=>no) fun _=>no) fun _=>no) fun _=>no) fun _=>?_
  refine Tot.ite (fun k=>Tot.ite (fun n=>Tot.ite (fun a=>I (.inl k) n a) fun _=>no) fun _=>no) fun _=>?_;refine Tot.ite (fun k=>Tot.ite (fun n=>Tot.ite (fun a=>Tot.ite (fun _=>I (.inr k) n a) fun _=>no) fun _=>no) fun _=>no) fun _=>?_;refine Tot.ite k4 fun _=>Tot.ite (fun k=>Tot.ite (fun he=>?_) fun _=>no) fun _=>no;exact(ztg _).bind fun b1 h1=>Tot.ite (fun t1=>(z2q _).bind fun b2 h2=>Tot.ite (fun t2=>(z2q _).bind fun b3 h3=>Tot.ite (fun t3=>Tot.ite (fun l=>(ye3 _).bind fun b4 h4=>Tot.mk fun t4=>⟨(h1 t1).1,h4 t4,by omega,.inr (.inr (.inr ⟨k,nilL hb,nilL he,h2 t2,h3 t3⟩))⟩) fun _=>no) fun _=>no) fun _=>no) fun _=>no
 ·refine Tot.ite (fun _=>no) fun _=>?_
  refine Tot.ite (fun k=>Tot.ite (fun n=>Tot.ite (fun a=>I (.inl k) n a) fun _=>no) fun _=>no) fun _=>?_;refine Tot.ite (fun k=>Tot.ite (fun n=>Tot.ite (fun a=>Tot.ite (fun _=>I (.inr k) n a) fun _=>no) fun _=>no) fun _=>no) fun _=>?_;exact Tot.ite k4 fun _=>Tot.ite (fun _=>no) fun _=>no
theorem zyj {s:xry} (h:fmS s):z3r s:=by
 rw[z3e]at h;obtain⟨b,hb,hq⟩:=yav s;rw[h.1]at hb;cases hb;exact hq rfl
theorem yhf (e:xrx) (h:e.Op=3->e.Args.length=1):Tot (zfr e) fun r=>r.length<=16386:=by
 unfold zfr;refine Tot.ite (fun o=>?_) fun _=>Tot.mk (by simp)
 have hl:0<e.Args.length:=by have:=h o;omega
 exact(Tot.get hl).bind fun x _=>(zqt x).bind fun r hr=>Tot.need (by omega) (Tot.need (by omega) (Tot.mk (by simp only[List.length_append,List.length_cons,List.length_nil];omega)))
theorem yan {s:xry} (F:z3r s):Tot (zcm s) fun r=>1<=r.length/\r.length<=300000000:=by
 have hn:=F.name
 have ha:=F.alen
 unfold zcm;refine Tot.ite (fun k=>?_) fun U=>?_
 ·have hi:s.Target.Op=3->s.Target.Args.length=1:=fun h=>by have:=F.kinds;omega
  exact(zqt _).bind fun r1 h1=>(yhf _ hi).bind fun r2 h2=>Tot.need (by omega) (Tot.need (by omega) ((zqt _).bind fun r3 h3=>Tot.need (by omega) (Tot.need (by omega) (Tot.mk (by simp only[List.length_append,List.length_cons,List.length_nil];omega)))))
 refine Tot.ite (fun k=>(zqt _).bind fun r1 h1=>Tot.need (by omega) (Tot.need (by omega) (Tot.mk (by simp only[List.length_append,List.length_cons,List.length_nil];omega)))) fun k2=>?_;refine Tot.ite (fun k=>(zqt _).bind fun r1 h1=>Tot.need (by omega) (Tot.need (by omega) (Tot.mk (by simp only[List.length_append,List.length_cons,List.length_nil];omega)))) fun k3=>?_;refine Tot.ite (fun k=>?_) fun k4=>?_
 ·have hl:s.Args.length=2:=by have:=F.kinds;omega
  exact Tot.need (by omega) (Tot.need (by omega) ((Tot.get (by omega)).bind fun x _=>(zqt x).bind fun r1 h1=>Tot.need (by omega) (Tot.need (by omega) ((Tot.get (by omega)).bind fun y _=>(zqt y).bind fun r2 h2=>Tot.need (by omega) (Tot.need (by omega) (Tot.mk (by simp only[List.length_append,List.length_cons,List.length_nil];omega)))))))
 refine Tot.need (by omega) (Tot.bind (Tot.loop (fun x=>x.2<=s.Args.length/\x.1.length<=33+16386*x.2) (R:=fun r=>r.length<=299999900) (fun x=>s.Args.length-x.2) ⟨Nat.zero_le _,by simp only[List.length_append,List.length_cons,List.length_nil];omega⟩ fun⟨t,i⟩ ⟨hi,hI⟩=>?_) fun r hr=>Tot.need (by omega) (Tot.mk (by simp only[List.length_append,List.length_cons,List.length_nil];omega)))
 simp only at hi hI;unfold zjn;refine Tot.ite (fun h=>?_) fun h=>Tot.mk (show t.length<=299999900 by omega)
 have I:i<s.Args.length:=by omega
 exact Tot.ite (fun _=>Tot.need (by omega) ((Tot.get I).bind fun x _=>(zqt x).bind fun r hr=>Tot.need (by omega) (Tot.mk ⟨⟨I,by simp only[List.length_append,List.length_cons,List.length_nil];omega⟩,by simp only;omega⟩))) fun _=>
  (Tot.get I).bind fun x _=>(zqt x).bind fun r hr=>Tot.need (by omega) (Tot.mk ⟨⟨I,by simp only[List.length_append];omega⟩,by simp only;omega⟩)
theorem z45:∀(d fuel:Nat),d<fuel->d<=1000->∀(l:List xry) (left:Int),left<=1000000->Tot (zce fuel l (d:Int) left) fun r=>r<=1000000/\(0<=r->fmSs l/\(nSs l:Int)+r<=left)
 |d,0,h,_,_,_,_=>by omega
 |d,fuel+1,h,hd,[],left,hl=>by
  unfold zce zc8;refine Tot.ite (fun _=>by omega) fun _=>Tot.ite (fun h=>by simp at h) fun _=>Tot.ite (fun _=>Tot.mk (by omega)) fun _=>?_;rw[zcj (r:=.inr left) (by simp[zi0]),Option.bind_some];exact Tot.mk ⟨hl,fun _=>⟨by rw[fmSs];trivial,by simp[nSs]⟩⟩
 |0,fuel+1,_,_,s::l,left,_=>by
  unfold zce zc8
  exact Tot.ite (fun _=>Tot.mk (by omega)) fun _=>Tot.ite (fun _=>Tot.ite (fun _=>Tot.mk (by omega)) fun h=>by omega) fun h=>by simp at h
 |d+1,fuel+1,h,hd,s::l',left,hl=>by
  generalize U:s::l'=l
  have ae:0<l.length:=by rw[<-U];simp
  have e1:w64 (((d+1:Nat):Int)-1)=(d:Int):=by rw[zhv (by omega) (by omega)];omega
  unfold zce zc8
  refine Tot.ite (fun _=>by omega) fun _=>Tot.ite (fun _=>?_) fun h=>by omega
  refine Tot.ite (fun h=>by omega) fun _=>Tot.ite (fun _=>Tot.mk (by omega)) fun _=>?_
  refine Tot.bind (Tot.loop (fun x=>x.2<=l.length/\x.1<=1000000/\(0<=x.1->fmSs (l.take x.2)/\(nSs (l.take x.2):Int)+x.1<=left))
   (R:=fun r=>match r with|.inl r=>r=-1|.inr r=>r<=1000000/\(0<=r->fmSs l/\(nSs l:Int)+r<=left)) (fun x=>l.length-x.2) ⟨Nat.zero_le _,hl,fun _=>⟨by rw[List.take_zero,fmSs];trivial,by simp[nSs]⟩⟩ fun⟨lf,i⟩ ⟨a0,a1,a2⟩=>?_) fun r hr=>by
     cases r with
     |inl r=>exact Tot.mk (by simp only at hr;omega)
     |inr r=>exact Tot.mk hr
  simp only at a0 a1 a2;unfold zi1;refine Tot.ite (fun hi=>?_) fun hi=>Tot.mk ⟨a1,fun h0=>?_⟩
  ·refine Tot.ite (fun h0=>?_) fun h0=>Tot.mk ⟨a1,fun h=>(h0 h).elim⟩
   have I:i<l.length:=by omega
   obtain⟨b0,b1⟩:=a2 h0;rw[List.getElem?_eq_getElem I,Option.bind_some]
   generalize hx:l[i]=x
   obtain⟨b,hb,hF⟩:=yav x;rw[hb,Option.bind_some];refine Tot.ite (fun aa=>?_) fun _=>Tot.mk rfl;subst aa;refine(yan (hF rfl)).bind fun r hr=>?_;rw[zhv (n:=lf-(r.length:Int)) (by omega) (by omega),e1];refine Tot.ite (fun h1=>?_) fun h1=>Tot.mk ⟨⟨I,by simp only;omega,fun h=>(h1 h).elim⟩,by simp only;omega⟩;refine(z45 d fuel (by omega) (by omega) x.Body (lf-r.length) (by omega)).bind fun r1 ab=>Tot.ite (fun h2=>?_) fun h2=>Tot.mk ⟨⟨I,by simp only;omega,fun h=>(h2 h).elim⟩,by simp only;omega⟩
   refine(z45 d fuel (by omega) (by omega) x.Else r1 (by omega)).bind fun r2 ad=>Tot.mk ⟨⟨I,by simp only;omega,fun h3=>?_⟩,by simp only;omega⟩;simp only at h3|-;obtain⟨c0,c1⟩:=ab.2 h2;obtain⟨d0,d1⟩:=ad.2 h3;rw[zqo I,z6k,z1h,hx];simp only[fmSs,nSs];rw[z3e,ykt];exact⟨⟨b0,⟨hb,c0,d0⟩,trivial⟩,by omega⟩
  ·have:i=l.length:=by omega
   subst this
   have:=a2 h0
   rwa[List.take_length]at this
theorem ylg (l:List xry):Tot (zg0 l) fun b=>b=true->fmSs l/\nSs l<=16384:=by
 unfold zg0
 exact(z45 24 1000000 (by omega) (by omega) l 16384 (by omega)).bind fun r hr=>Tot.mk fun h=>by
  have h0:=of_decide_eq_true h
  have:=hr.2 h0
  exact⟨this.1,by omega⟩
theorem z8h:∀(n:Nat) (l:List xry),fmSs l->zf1 l+1<=n->nSs l<=16384->Tot (ze1 n l) fun r=>r.length<=300000100*nSs l
 |0,l,_,h,_=>by omega
 |n+1,l,ok,hd,hs=>by
  show Tot (ze2 (ze1 n) l) _
  unfold ze2;refine Tot.bind (Tot.loop (fun x=>x.2<=l.length/\x.1.length<=300000100*nSs (l.take x.2)) (R:=fun r=>r.length<=300000100*nSs l) (fun x=>l.length-x.2) ⟨Nat.zero_le _,by simp⟩ fun⟨t,i⟩ ⟨hi,hI⟩=>?_) fun r hr=>Tot.mk hr;simp only at hi hI;unfold zjm;refine Tot.ite (fun h=>?_) fun h=>Tot.mk ?_
  ·have h':i<l.length:=by omega
   rw[List.getElem?_eq_getElem h'];simp only[Option.bind_some]
   have U:=List.getElem_mem h'
   have ab:nSs (l.take (i+1))<=nSs l:=by
    have:=z1h (l:=l.take (i+1)) (m:=l.drop (i+1))
    rw[List.take_append_drop]at this;omega
   have aa:nSs (l.take (i+1))=nSs (l.take i)+nS l[i]:=by rw[zqo h',z1h];simp[nSs]
   have I:=zwc ok _ U
   have dx:=zm8 U
   generalize l[i]=x at aa I dx
   have F:=zyj I
   rw[z3e]at I;rw[zt7]at dx;rw[ykt]at aa
   have hB:=z8h n x.Body I.2.1 (by omega) (by omega)
   have hE:=z8h n x.Else I.2.2 (by omega) (by omega)
   have go:∀t':Str,t'.length<=300000100*nSs (l.take (i+1))->Tot (some (Sum.inl (t',i+1)):Option ((Str×Nat)⊕Str)) (Rd (fun x=>x.2<=l.length/\x.1.length<=300000100*nSs (l.take x.2)) (fun r=>r.length<=300000100*nSs l) (fun x=>l.length-x.2) (l.length-i)):=fun t' ht=>Tot.mk ⟨⟨h',ht⟩,by simp only;omega⟩
   refine Tot.ite (fun h0=>Tot.need (by omega) ((yan F).bind fun r hr=>Tot.need (by omega) (hB.bind fun b hb=>?_))) fun h0=>(yan F).bind fun r hr=>Tot.need (by omega) (hB.bind fun b hb=>?_)
   all_goals repeat' (first|refine Tot.need (by omega) ?_|refine Tot.ite (fun _=>?_) (fun _=>?_)|refine hE.bind fun e he=>?_|exact go _ (by simp only[List.length_append,List.length_cons,List.length_nil];omega))
  ·have:i=l.length:=by omega
   subst this;rwa[List.take_length]at hI
theorem yb8 {l:List xry} (ok:fmSs l) (U:zf1 l<=1000) (I:nSs l<=16384):Tot (zgz l) fun r=>r.length<=5000000000000:=by
 unfold zgz;exact(z8h 1000000 l ok (by omega) I).bind fun r hr=>Tot.mk (by omega)
end Go.Lz

end
section
namespace Go.Lz
theorem z5c {α:Type} {xs:List α} {g:α->Prop} {f:Nat->Option (Nat⊕(Bool⊕Unit))} (step:∀i (h:i<xs.length),Tot (f i) fun r=>r=.inl (i+1)/\g xs[i]\/r=.inr (.inl false)) (last:f xs.length=some (.inr (.inr ()))):
  Tot (loop f 0) fun r=>r=.inl false\/r=.inr ()/\∀x∈xs,g x:=by
 refine Tot.loop (fun i=>i<=xs.length/\∀x∈xs.take i,g x) (fun i=>xs.length-i) ⟨Nat.zero_le _,by simp⟩ fun i ⟨hi,hI⟩=>?_
 by_cases h:i<xs.length
 ·refine(step i h).imp fun r hr=>?_
  rcases hr with⟨rfl,I⟩|rfl
  ·refine⟨⟨h,fun y hy=>?_⟩,by simp only;omega⟩
   rw[zqo h]at hy
   rcases List.mem_append.1 hy with hy|hy
   ·exact hI y hy
   ·rw[List.mem_singleton]at hy;rw[hy];exact I
  ·exact .inl rfl
 ·have:i=xs.length:=by omega
  subst this;rw[List.take_length]at hI;exact⟨_,last,.inr ⟨rfl,hI⟩⟩
theorem yli (l:List Str) (s:Str):Tot (zgx l s) fun _=>True:=by
 unfold zgx
 refine Tot.bind (Tot.loop (fun i=>i<=l.length) (R:=fun _=>True) (fun i=>l.length-i) (Nat.zero_le _) fun i hi=>?_) fun r _=>by cases r<;>exact Tot.mk trivial
 unfold zjl;refine Tot.ite (fun h=>?_) fun _=>Tot.mk trivial
 have I:i<l.length:=by omega
 exact(Tot.get I).bind fun x _=>Tot.ite (fun _=>Tot.mk trivial) fun _=>Tot.mk ⟨I,by simp only;omega⟩
def zya (p:xrw) (n:Int):Prop:=0<=n/\n<(p.Lattice.Names.length:Int)
theorem zt2 (p:xrw) (n:Int):Tot (za7 p n) fun b=>b=true->zya p n:=by
 unfold za7 za6;refine Tot.bind (Tot.ite (fun h=>Tot.mk (Q:=fun b=>b=true->zya p n) fun h2=>⟨h,of_decide_eq_true h2⟩) fun _=>Tot.mk fun h=>by cases h) fun b hb=>Tot.mk hb
theorem z3o (k:Int):Tot (za2 k) fun r=>r≠0->k=1\/k=2\/k=3\/k=4:=by
 unfold za2;exact Tot.ite (fun h=>Tot.mk fun _=>by omega) fun _=>Tot.ite (fun h=>Tot.mk fun _=>by omega) fun _=>Tot.ite (fun h=>Tot.mk fun _=>by omega) fun _=>Tot.ite (fun h=>Tot.mk fun _=>by omega) fun _=>Tot.mk fun h=>(h rfl).elim
theorem z8f (t:xsc):Tot (zbx t) fun r=>r=0->(t.Kind=1\/t.Kind=2\/t.Kind=3\/t.Kind=4)/\0<=t.Len/\t.Len<=32/\-32768<=t.Low/\t.Low<=32767/\(t.Len=0->t.Low=0):=by
 have no:∀{Q:Prop},Tot (some (6:Int)) fun b=>b=0->Q:=Tot.mk fun h=>by cases h
 unfold zbx;refine(z3o _).bind fun r hr=>Tot.ite (fun _=>no) fun h=>Tot.ite (fun _=>no) fun _=>Tot.ite (fun _=>no) fun _=>?_
 have I:=hr h
 exact Tot.ite (fun _=>Tot.ite (fun _=>Tot.ite (fun _=>no) fun _=>Tot.ite (fun _=>no) fun _=>Tot.mk fun _=>⟨I,by omega,by omega,by omega,by omega,by omega⟩) fun _=>no) fun _=>Tot.ite (fun _=>no) fun _=>Tot.ite (fun _=>no) fun _=>Tot.mk fun _=>⟨I,by omega,by omega,by omega,by omega,by omega⟩
theorem zwz (k n:Int):Tot (zav k n) fun b=>b=true->(-2147483648<=n/\n<2147483648)/\(k=1->n=0\/n=1)/\(k=2->-32768<=n/\n<32768):=by
 unfold zav;refine Tot.ite (fun _=>Tot.ite (fun _=>Tot.mk fun _=>by omega) fun _=>Tot.mk fun h=>by have:=of_decide_eq_true h;omega) fun _=>?_
 have I:Tot (zb8 k) fun r=>0<=r/\r<=2147483648/\(k=2->r=32768):=by
  unfold zb8;exact Tot.ite (fun _=>Tot.mk ⟨by decide,by decide,fun _=>rfl⟩) fun h=>Tot.mk ⟨by decide,by decide,fun U=>(h U).elim⟩
 obtain⟨a,ha,aa⟩:=I
 refine(z3o _).bind fun r _=>Tot.ite (fun _=>?_) fun _=>Tot.mk fun h=>by cases h
 rw[ha,Option.bind_some,zhv (by omega) (by omega)]
 refine Tot.ite (fun _=>Tot.mk fun h=>?_) fun _=>Tot.mk fun h=>by cases h
 have:=of_decide_eq_true h
 omega
structure yby (p:xrw) (v:xr7):Prop where
 name:v.Name.length<=32
 kind:v.Type_.Kind=1\/v.Type_.Kind=2\/v.Type_.Kind=3\/v.Type_.Kind=4
 len:0<=v.Type_.Len/\v.Type_.Len<=32
 low:-32768<=v.Type_.Low/\v.Type_.Low<=32767
 mode:v.Mode=0\/v.Mode=1\/v.Mode=2
 scalar:v.Mode≠0->v.Type_.Len=0
 label:v.Label=-1\/zya p v.Label
 safe:-2147483648<=v.Safe/\v.Safe<2147483648
 zero:v.Type_.Len=0->v.Type_.Low=0
 vsafe:(v.Type_.Kind=1->v.Safe=0\/v.Safe=1)/\(v.Type_.Kind=2->-32768<=v.Safe/\v.Safe<32768)
theorem ynq (p:xrw) (v:xr7):Tot (zd1 p v) fun b=>b=true->yby p v:=by
 have no:∀{Q:Prop},Tot (some false) fun b=>b=true->Q:=Tot.mk fun h=>by cases h
 unfold zd1;refine(ztg _).bind fun b hb=>Tot.ite (fun h1=>(z8f _).bind fun r hr=>Tot.ite (fun h2=>?_) fun _=>no) fun _=>no;obtain⟨t1,t2,t3,t4,t5,t6⟩:=hr h2
 have n:=(hb h1).1
 refine Tot.ite (fun m=>Tot.ite (fun s=>?_) fun _=>no) fun I=>?_
 ·refine Tot.ite (fun l=>Tot.ite (fun e=>Tot.mk fun _=>⟨n,t1,⟨t2,t3⟩,⟨t4,t5⟩,.inl m,fun h=>(h m).elim,.inl l,by omega,t6,by omega⟩) fun e=>Tot.mk fun _=>⟨n,t1,⟨t2,t3⟩,⟨t4,t5⟩,.inl m,fun h=>(h m).elim,.inl l,by omega,t6,by omega⟩) fun l=>?_
  exact(zt2 _ _).bind fun b hl=>Tot.ite (fun hb=>Tot.ite (fun e=>Tot.mk fun _=>⟨n,t1,⟨t2,t3⟩,⟨t4,t5⟩,.inl m,fun h=>(h m).elim,.inr (hl hb),by omega,t6,by omega⟩) fun e=>Tot.mk fun _=>⟨n,t1,⟨t2,t3⟩,⟨t4,t5⟩,.inl m,fun h=>(h m).elim,.inr (hl hb),by omega,t6,by omega⟩) fun _=>no
 refine Tot.ite (fun m=>Tot.ite (fun s=>(zt2 _ _).bind fun b hl=>Tot.ite (fun hb=>Tot.mk fun e=>⟨n,t1,⟨t2,t3⟩,⟨t4,t5⟩,.inr (.inl m),fun _=>of_decide_eq_true e,.inr (hl hb),by omega,t6,by omega⟩) fun _=>no) fun _=>no) fun U=>?_;exact Tot.ite (fun m=>(zt2 _ _).bind fun b hl=>Tot.ite (fun hb=>Tot.ite (fun e=>(zwz _ _).bind fun c hc=>Tot.mk fun h=>⟨n,t1,⟨t2,t3⟩,⟨t4,t5⟩,.inr (.inr m),fun _=>e,.inr (hl hb),(hc h).1,t6,(hc h).2⟩) fun _=>no) fun _=>no) fun _=>no
structure yng (p:xrw) (b:xr9):Prop where
 name:b.Name.length<=32
 kind:b.Kind.length<=50
 label:zya p b.Label
structure ye6 (p:xrw) (s:xsb):Prop where
 name:s.Name.length<=32
 frm:zya p s.From
 to:zya p s.To
structure zkv (p:xrw):Prop where
 nl:p.Lattice.Names.length<=8
 ns:p.Sites.length<=8
 nv:p.Vars.length<=48
 nb:p.Blocks.length<=12
 nt:p.Tasks.length<=4
 nb2:p.Lattice.Below.length<=16384
 names:∀s∈p.Lattice.Names,s.length<=32
 below:∀b∈p.Lattice.Below,zya p b.a0/\zya p b.a1
 sites:∀s∈p.Sites,ye6 p s
 vars:∀v∈p.Vars,yby p v
 blocks:∀b∈p.Blocks,yng p b
theorem ygs (p:xrw):Tot (zfq p) fun b=>b=true->zkv p:=by
 have no:∀{Q:Prop},Tot (some false) fun b=>b=true->Q:=Tot.mk fun h=>by cases h
 have bad:∀{g:Prop} {i:Nat},Tot (some (.inr (.inl false)):Option (Nat⊕(Bool⊕Unit))) fun r=>r=.inl (i+1)/\g\/r=.inr (.inl false):=Tot.mk (.inr rfl)
 unfold zfq;refine Tot.ite (fun _=>no) fun n1=>Tot.ite (fun _=>no) fun n2=>Tot.ite (fun _=>no) fun n3=>Tot.ite (fun _=>no) fun n4=>Tot.ite (fun _=>no) fun n5=>Tot.ite (fun _=>no) fun n6=>?_;refine Tot.bind (z5c (xs:=p.Lattice.Names) (g:=fun s=>s.length<=32) (fun i h=>?_) (by simp[zgj])) fun r hr=>?_
 ·unfold zgj
  rw[if_pos (by omega),List.getElem?_eq_getElem h,Option.bind_some];exact(ztg _).bind fun b hb=>Tot.ite (fun h1=>(yli _ _).bind fun k _=>Tot.ite (fun _=>Tot.mk (.inl ⟨rfl,(hb h1).1⟩)) fun _=>bad) fun _=>bad
 rcases hr with rfl|⟨rfl,I⟩
 ·exact no
 refine Tot.bind (z5c (xs:=p.Lattice.Below) (g:=fun b=>zya p b.a0/\zya p b.a1) (fun i h=>?_) (by simp[zgi])) fun r hr=>?_
 ·unfold zgi
  rw[if_pos (by omega),List.getElem?_eq_getElem h,Option.bind_some];exact(zt2 _ _).bind fun b hb=>Tot.ite (fun h1=>(zt2 _ _).bind fun c hc=>Tot.ite (fun h2=>Tot.mk (.inl ⟨rfl,hb h1,hc h2⟩)) fun _=>bad) fun _=>bad
 rcases hr with rfl|⟨rfl,U⟩
 ·exact no
 refine Tot.bind (z5c (xs:=p.Sites) (g:=ye6 p) (fun i h=>?_) (by simp[zgh])) fun r hr=>?_
 ·unfold zgh
  rw[if_pos (by omega),List.getElem?_eq_getElem h,Option.bind_some];exact(ztg _).bind fun a ha=>Tot.ite (fun h0=>(zt2 _ _).bind fun b hb=>Tot.ite (fun h1=>(zt2 _ _).bind fun c hc=>Tot.ite (fun h2=>Tot.mk (.inl ⟨rfl,(ha h0).1,hb h1,hc h2⟩)) fun _=>bad) fun _=>bad) fun _=>bad
 rcases hr with rfl|⟨rfl,g3⟩
 ·exact no
 refine Tot.bind (z5c (xs:=p.Vars) (g:=yby p) (fun i h=>?_) (by simp[zgg])) fun r hr=>?_
 ·unfold zgg
  rw[if_pos (by omega),List.getElem?_eq_getElem h,Option.bind_some];exact(ynq _ _).bind fun a ha=>Tot.ite (fun h0=>Tot.mk (.inl ⟨rfl,ha h0⟩)) fun _=>bad
 rcases hr with rfl|⟨rfl,g4⟩
 ·exact no
 refine Tot.bind (z5c (xs:=p.Blocks) (g:=yng p) (fun i h=>?_) (by simp[zgf])) fun r hr=>?_
 ·unfold zgf
  rw[if_pos (by omega),List.getElem?_eq_getElem h,Option.bind_some];exact(ztg _).bind fun a ha=>Tot.ite (fun h0=>(ybv _ _ (Nat.le_of_ble_eq_true rfl)).bind fun b hb=>Tot.ite (fun h1=>(zt2 _ _).bind fun c hc=>Tot.ite (fun h2=>Tot.mk (.inl ⟨rfl,(ha h0).1,Nat.le_trans (hb h1) (Nat.le_of_ble_eq_true rfl),hc h2⟩)) fun _=>bad) fun _=>bad) fun _=>bad
 rcases hr with rfl|⟨rfl,g5⟩
 ·exact no
 exact Tot.mk fun _=>⟨by omega,by omega,by omega,by omega,by omega,by omega,I,U,g3,g4,g5⟩
structure z77 (p:xrw) (t:xse):Prop where
 every:1<=t.Every/\t.Every<=65536
 prio:0<=t.Priority/\t.Priority<=255
 nbud:t.Budget.length=p.Lattice.Names.length
 bud:∀b∈t.Budget,0<=b/\b<=4096
 ok:fmSs t.Body
 n:nSs t.Body<=16384
theorem yfx (p:xrw):Tot (zfp p) fun b=>b=true->∀t∈p.Tasks,z77 p t:=by
 have bad:∀{g:Prop} {i:Nat},Tot (some (.inr (.inl false)):Option (Nat⊕(Bool⊕Unit))) fun r=>r=.inl (i+1)/\g\/r=.inr (.inl false):=Tot.mk (.inr rfl)
 unfold zfp;refine Tot.bind (z5c (xs:=p.Tasks) (g:=z77 p) (fun i h=>?_) (by simp[zgd])) fun r hr=>?_
 ·unfold zgd
  rw[if_pos (by omega),List.getElem?_eq_getElem h,Option.bind_some];refine Tot.ite (fun _=>bad) fun a1=>Tot.ite (fun _=>bad) fun a2=>Tot.ite (fun _=>bad) fun a3=>Tot.ite (fun _=>bad) fun U=>Tot.ite (fun a5=>(ylg _).bind fun b hb=>Tot.ite (fun h1=>?_) fun _=>bad) fun _=>bad;refine Tot.bind (z5c (xs:=p.Tasks[i].Budget) (g:=fun b=>0<=b/\b<=4096) (fun k I=>?_) (by simp[zgc])) fun r hr=>?_
  ·unfold zgc
   rw[if_pos (by omega),List.getElem?_eq_getElem I,Option.bind_some];exact Tot.ite (fun _=>bad) fun b1=>Tot.ite (fun _=>bad) fun b2=>Tot.mk (.inl ⟨rfl,by omega,by omega⟩)
  rcases hr with rfl|⟨rfl,g⟩
  ·exact bad
  ·exact Tot.mk (.inl ⟨rfl,⟨by omega,by omega⟩,⟨by omega,by omega⟩,by omega,g,(hb h1).1,(hb h1).2⟩)
 rcases hr with rfl|⟨rfl,g⟩
 ·exact Tot.mk fun h=>by cases h
 ·exact Tot.mk fun _=>g
theorem z03 (n:Int) (h1:-10000000*900<n) (h2:n<9000000000):Tot (zb3 n) fun r=>r.length<=12:=by
 unfold zb3;refine Tot.ite (fun h=>?_) fun h=>(znt n (by omega) (by omega)).bind fun r hr=>Tot.mk (by omega);rw[zhv (by omega) (by omega)];exact(znt (0-n) (by omega) (by omega)).bind fun r hr=>Tot.need (by omega) (Tot.mk (by simp only[List.length_append,List.length_cons,List.length_nil];omega))
theorem ynu {p:xrw} {v:xr7} (g:yby p v):Tot (zh3 v.Type_) fun r=>r.length<=100:=by
 have k:=g.kind
 have l:=g.len
 have w:=g.low
 unfold zh3;refine(Tot.idx (by omega) (by simp only[List.length_cons,List.length_nil];omega)).bind fun x I=>?_
 have U:x.length<=4:=by
  simp only[List.mem_cons,List.not_mem_nil,or_false]at I
  rcases I with rfl|rfl|rfl|rfl|rfl<;>decide
 refine Tot.ite (fun _=>Tot.mk (by omega)) fun _=>(z03 _ (by omega) (by omega)).bind fun r hr=>Tot.need (by omega) (Tot.need (by omega) ?_);rw[zhv (n:=v.Type_.Low+v.Type_.Len) (by omega) (by omega),zhv (by omega) (by omega)];exact(z03 _ (by omega) (by omega)).bind fun r2 aa=>Tot.need (by omega) (Tot.need (by omega) (Tot.need (by omega) (Tot.mk (by simp only[List.length_append,List.length_cons,List.length_nil];omega))))
theorem zxc {p:xrw} (P:zkv p) {n:Int} (h:zya p n):Tot (idx p.Lattice.Names n) fun s=>s.length<=32:=
 (Tot.idx h.1 h.2).imp fun s I=>P.names s I
theorem ypx {p:xrw} (P:zkv p) {v:xr7} (g:yby p v):Tot (zh4 p v) fun r=>r.length<=300:=by
 have n:=g.name
 have m:=g.mode
 have s:=g.safe
 unfold zh4;refine(Tot.idx (by omega) (by simp only[List.length_cons,List.length_nil];omega)).bind fun x U=>?_
 have aa:x.length<=7:=by
  simp only[List.mem_cons,List.not_mem_nil,or_false]at U
  rcases U with rfl|rfl|rfl<;>decide
 refine Tot.need (by omega) (Tot.need (by omega) ((ynu g).bind fun t ht=>Tot.need (by omega) ?_))
 have hs:=z03 v.Safe (by omega) (by omega)
 refine Tot.ite (fun hl=>?_) fun _=>?_
 ·have I:zya p v.Label:=by exact g.label.resolve_left fun h=>by omega
  refine(zxc P I).bind fun y hy=>?_
  repeat' (first|refine Tot.need (by omega) ?_|refine Tot.ite (fun _=>?_) (fun _=>?_)|refine hs.bind fun e he=>?_|exact Tot.mk (by simp only[List.length_append,List.length_cons,List.length_nil];omega))
 ·repeat' (first|refine Tot.need (by omega) ?_|refine Tot.ite (fun _=>?_) (fun _=>?_)|refine hs.bind fun e he=>?_|exact Tot.mk (by simp only[List.length_append,List.length_cons,List.length_nil];omega))
theorem yjt {p:xrw} (P:zkv p) {t:xse} (g:z77 p t) (hd:zf1 t.Body<=1000):Tot (zgw p t) fun r=>r.length<=5000000001000:=by
 have e:=g.every
 have pr:=g.prio
 have nb:=g.nbud
 have nl:=P.nl
 unfold zgw;refine(znt _ (by omega) (by omega)).bind fun r1 h1=>Tot.need (by omega) (Tot.need (by omega) ((znt _ (by omega) (by omega)).bind fun r2 h2=>Tot.need (by omega) ?_));refine Tot.bind (Tot.loop (fun x=>x.2<=t.Budget.length/\x.1.length<=50+60*x.2) (R:=fun r=>r.length<=600) (fun x=>t.Budget.length-x.2) ⟨Nat.zero_le _,by simp only[List.length_append,List.length_cons,List.length_nil];omega⟩ fun⟨s,i⟩ ⟨hi,hI⟩=>?_) fun s hs=>?_
 ·simp only at hi hI
  unfold zjk;refine Tot.ite (fun h=>?_) fun _=>Tot.mk (show s.length<=600 by omega)
  have I:i<t.Budget.length:=by omega
  have U:i<p.Lattice.Names.length:=by omega
  have hn:=P.names _ (List.getElem_mem U)
  have hb:=g.bud _ (List.getElem_mem I)
  rw[List.getElem?_eq_getElem I,List.getElem?_eq_getElem U];simp only[Option.bind_some]
  have dg:=znt _ hb.1 (by omega)
  exact Tot.ite (fun _=>Tot.need (by omega) (Tot.need (by omega) (dg.bind fun d hd=>Tot.need (by omega) (Tot.need (by omega) (Tot.mk ⟨⟨I,by simp only[List.length_append,List.length_cons,List.length_nil];omega⟩,by simp only;omega⟩))))) fun _=>
   Tot.need (by omega) (Tot.need (by omega) (dg.bind fun d hd=>Tot.need (by omega) (Tot.need (by omega) (Tot.mk ⟨⟨I,by simp only[List.length_append,List.length_cons,List.length_nil];omega⟩,by simp only;omega⟩))))
 ·exact Tot.need (by omega) ((yb8 g.ok hd g.n).bind fun b hb=>Tot.ite (fun _=>Tot.need (by omega) (Tot.mk (by simp only[List.length_append,List.length_cons,List.length_nil];omega))) fun _=>Tot.need (by omega) (Tot.need (by omega) (Tot.need (by omega) (Tot.mk (by simp only[List.length_append,List.length_cons,List.length_nil];omega)))))
theorem z7h {α:Type} {xs:List α} {c b m:Nat} {f:Str×Nat->Option ((Str×Nat)⊕Str)} (hc:xs.length<=m) (step:∀(s:Str) i (h:i<xs.length),s.length<=b+c*i->s.length<=b+c*m->Tot (f (s,i)) fun r=>∃s',r=.inl (s',i+1)/\s'.length<=s.length+c) (last:∀s,f (s,xs.length)=some (.inr s)) (s:Str) (I:s.length<=b):
  Tot (loop f (s,0)) fun r=>r.length<=b+c*m:=by
 refine Tot.loop (fun x=>x.2<=xs.length/\x.1.length<=b+c*x.2) (fun x=>xs.length-x.2) ⟨Nat.zero_le _,by simpa using I⟩ fun⟨s,i⟩ ⟨hi,hI⟩=>?_;simp only at hi hI
 have hm:c*i<=c*m:=Nat.mul_le_mul_left _ (by omega)
 by_cases h:i<xs.length
 ·refine(step s i h hI (by omega)).imp fun r hr=>?_
  obtain⟨s',rfl,hl⟩:=hr;exact⟨⟨h,by simp only[Nat.mul_add];omega⟩,by simp only;omega⟩
 ·have:i=xs.length:=by omega
  subst this;exact⟨_,last s,show s.length<=_ by omega⟩
theorem yb7 {p:xrw} (P:zkv p) (T:∀t∈p.Tasks,z77 p t) (hd:∀t∈p.Tasks,zf1 t.Body<=1000):Tot (zgv p) fun _=>True:=by
 unfold zgv;refine Tot.bind (z7h (xs:=p.Lattice.Names) (c:=40) (b:=0) (m:=8) P.nl (fun s i h I hm=>?_) (fun s=>by simp[zhi]) [] (by simp)) fun s1 h1=>?_
 ·unfold zhi
  dsimp only
  have hn:=P.names _ (List.getElem_mem h)
  rw[if_pos (by omega),List.getElem?_eq_getElem h,Option.bind_some];exact Tot.need (by omega) (Tot.need (by omega) (Tot.need (by omega) (Tot.mk ⟨_,rfl,by simp only[List.length_append,List.length_cons,List.length_nil];omega⟩)))
 refine Tot.bind (z7h (xs:=p.Lattice.Below) (c:=80) (b:=320) (m:=16384) P.nb2 (fun s i h I hm=>?_) (fun s=>by simp[zhh]) s1 (by omega)) fun s2 h2=>?_
 ·unfold zhh
  dsimp only
  have hn:=P.below _ (List.getElem_mem h)
  rw[if_pos (by omega),List.getElem?_eq_getElem h,Option.bind_some];exact(zxc P hn.1).bind fun x U=>Tot.need (by omega) (Tot.need (by omega) ((zxc P hn.2).bind fun y hy=>Tot.need (by omega) (Tot.need (by omega) (Tot.need (by omega) (Tot.mk ⟨_,rfl,by simp only[List.length_append,List.length_cons,List.length_nil];omega⟩)))))
 refine Tot.bind (z7h (xs:=p.Sites) (c:=120) (b:=1500000) (m:=8) P.ns (fun s i h I hm=>?_) (fun s=>by simp[zhg]) s2 (by omega)) fun s3 h3=>?_
 ·unfold zhg
  dsimp only
  have hn:=P.sites _ (List.getElem_mem h)
  have hl:=hn.name
  rw[if_pos (by omega),List.getElem?_eq_getElem h,Option.bind_some];exact Tot.need (by omega) (Tot.need (by omega) ((zxc P hn.frm).bind fun x U=>Tot.need (by omega) (Tot.need (by omega) ((zxc P hn.to).bind fun y hy=>Tot.need (by omega) (Tot.need (by omega) (Tot.need (by omega) (Tot.mk ⟨_,rfl,by simp only[List.length_append,List.length_cons,List.length_nil];omega⟩)))))))
 refine Tot.bind (z7h (xs:=p.Vars) (c:=300) (b:=1600000) (m:=48) P.nv (fun s i h I hm=>?_) (fun s=>by simp[zhf]) s3 (by omega)) fun s4 h4=>?_
 ·unfold zhf
  dsimp only;rw[if_pos (by omega),List.getElem?_eq_getElem h,Option.bind_some];exact(ypx P (P.vars _ (List.getElem_mem h))).bind fun x U=>Tot.need (by omega) (Tot.mk ⟨_,rfl,by simp only[List.length_append];omega⟩)
 refine Tot.bind (z7h (xs:=p.Blocks) (c:=200) (b:=1700000) (m:=12) P.nb (fun s i h I hm=>?_) (fun s=>by simp[zhe]) s4 (by omega)) fun s5 h5=>?_
 ·unfold zhe
  dsimp only
  have hn:=P.blocks _ (List.getElem_mem h)
  have hl:=hn.name
  have hk:=hn.kind
  rw[if_pos (by omega),List.getElem?_eq_getElem h,Option.bind_some];exact Tot.need (by omega) (Tot.need (by omega) (Tot.need (by omega) (Tot.need (by omega) ((zxc P hn.label).bind fun x U=>Tot.need (by omega) (Tot.need (by omega) (Tot.need (by omega) (Tot.mk ⟨_,rfl,by simp only[List.length_append,List.length_cons,List.length_nil];omega⟩)))))))
 refine Tot.bind (z7h (xs:=p.Tasks) (c:=5000000001000) (b:=1800000) (m:=4) P.nt (fun s i h I hm=>?_) (fun s=>by simp[zhd]) s5 (by omega)) fun s6 h6=>Tot.mk trivial;unfold zhd;dsimp only;rw[if_pos (by omega),List.getElem?_eq_getElem h,Option.bind_some];exact(yjt P (T _ (List.getElem_mem h)) (hd _ (List.getElem_mem h))).bind fun x U=>Tot.need (by omega) (Tot.mk ⟨_,rfl,by simp only[List.length_append];omega⟩)
theorem ybe (p:xrw) (I:∀t∈p.Tasks,zf1 t.Body<=1000):Tot (zbm p) fun b=>b=true->zkv p/\∀t∈p.Tasks,z77 p t:=by
 unfold zbm
 exact(ygs p).bind fun a ha=>Tot.ite (fun h1=>(yfx p).bind fun b hb=>Tot.ite (fun h2=>(yb7 (ha h1) (hb h2) I).bind fun _ _=>Tot.mk fun _=>⟨ha h1,hb h2⟩) fun _=>Tot.mk fun h=>by cases h) fun _=>Tot.mk fun h=>by cases h
end Go.Lz

end
section
namespace Go.Lz
def zs3 {α:Type} (xs:List α) (p:α->Bool):Int:=match xs.findIdx? p with|some i=>(i:Int)|none=>-1
theorem yaw {α:Type} (n:Nat) (xs:List α) (p:α->Bool) (hn:n=xs.length) (d:α):(List.range n).find? (fun i=>p (xs.getD i d))=xs.findIdx? p:=by
 subst hn
 induction xs with
 |nil=>rfl
 |cons x xs I=>
  rw[List.length_cons,List.range_succ_eq_map,List.find?_cons,List.findIdx?_cons];simp only[List.getD_cons_zero]
  cases U:p x with
  |true=>rfl
  |false=>
   rw[List.find?_map,<-I];simp only[Function.comp_def,Nat.succ_eq_add_one,List.getD_cons_succ];rfl
theorem zmg {α:Type} {xs:List α} {p:α->Bool} {f:Nat->Option (Nat⊕(Int⊕Unit))} (step:∀i (hi:i<xs.length),f i=some (if p xs[i]then .inr (.inl (i:Int))else .inl (i+1))) (last:f xs.length=some (.inr (.inr ()))):
  (loop f 0).bind (fun e=>match e with|.inl e=>some e|.inr ()=>some (-1))=some (zs3 xs p):=by
 cases xs with
 |nil=>rw[show loop f 0=_ from zcj last];rfl
 |cons x r=>
  generalize I:x::r=xs at step last|-
  rw[zkd xs.length (fun i=>p (xs.getD i x)) (fun i=>.inl (i:Int)) (.inr ()) (fun i hi=>by
   rw[step i hi];simp[List.getD_eq_getElem?_getD,hi]) last,yaw _ _ _ rfl]
  unfold zs3;cases xs.findIdx? p<;>rfl
theorem z3g {α:Type} {xs:List α} {p:α->Bool}:0<=zs3 xs p↔∃x∈xs,p x=true:=by
 unfold zs3
 cases h:xs.findIdx? p with
 |none=>
  have:=List.findIdx?_eq_none_iff.1 h
  constructor
  ·intro h;dsimp only at h;omega
  ·rintro⟨x,U,I⟩
   rw[this x U]at I;cases I
 |some i=>
  constructor
  ·intro _
   obtain⟨hi,I,_⟩:=List.findIdx?_eq_some_iff_getElem.1 h;exact⟨xs[i],List.getElem_mem hi,I⟩
  ·intro _;dsimp only;omega
theorem yiz {α:Type} {s:List α} {p:α->Bool}:decide (0<=zs3 s p)=s.any p:=by
 rw[Bool.eq_iff_iff,decide_eq_true_eq,z3g,List.any_eq_true]
def varN (p:xrw) (name:Str):Int:=zs3 p.Vars fun v=>decide (v.Name=name)
def zh6 (p:xrw) (name:Str):Int:=zs3 p.Blocks fun v=>decide (v.Name=name)
def zn2 (p:xrw) (name:Str):Int:=zs3 p.Sites fun v=>decide (v.Name=name)
theorem zpu (p:xrw) (name:Str):za5 p name=some (varN p name):=
 zmg (fun i hi=>by by_cases h:p.Vars[i].Name=name<;>simp[zh2,hi,h]) (by simp[zh2])
theorem zmp (p:xrw) (name:Str):zbw p name=some (zh6 p name):=
 zmg (fun i hi=>by by_cases h:p.Blocks[i].Name=name<;>simp[zgb,hi,h]) (by simp[zgb])
theorem ztc (p:xrw) (name:Str):zdj p name=some (zn2 p name):=
 zmg (fun i hi=>by by_cases h:p.Sites[i].Name=name<;>simp[zhc,hi,h]) (by simp[zhc])
theorem z6p {d:Nat}:∀{l:List xrx},(∀(i:Nat) (h:i<l.length),depE l[i]<=d)->zng l<=d
 |[],_=>by simp[zng]
 |e::es,h=>by
  have h1:=h 0 (by simp)
  have h2:=z6p (l:=es) (fun i hi=>h (i+1) (by simpa using hi))
  simp only[zng,List.getElem_cons_zero]at h1|-;omega
theorem z6o {d:Nat}:∀{l:List xry},(∀(i:Nat) (h:i<l.length),depS l[i]<=d)->zf1 l<=d
 |[],_=>by simp[zf1]
 |e::es,h=>by
  have h1:=h 0 (by simp)
  have h2:=z6o (l:=es) (fun i hi=>h (i+1) (by simpa using hi))
  simp only[zf1,List.getElem_cons_zero]at h1|-;omega
theorem z5e {n:Int} (h1:0<=n) (h2:n<=1000000):w64 (n-1)=n-1:=by rw[znw];omega
theorem ylk:∀(d fuel:Nat),d<fuel->d<=1000->∀(e:xrx) (left:Int),∃r,zc1 fuel e (d:Int) left=some r/\(0<=r->depE e<=d)
 |d,0,h,_,_,_=>by omega
 |0,fuel+1,_,_,e,left=>⟨-1,by simp[zc1,zf0],by omega⟩
 |d+1,fuel+1,h,hd,e,left=>by
  have e1:w64 (((d+1:Nat):Int)-1)=(d:Int):=by rw[z5e (by omega) (by omega)];omega
  have e2:¬(((d+1:Nat):Int)<1):=by omega
  simp only[zc1,zf0,e2,if_false]
  generalize w64 (left-(w64 ((w64 (1+(e.Args.length:Int)))+(w64 ((e.Name.length:Int).tdiv 100)))))=l0
  by_cases hl:l0<0
  ·exact⟨-1,by simp[hl],by omega⟩
  simp only[hl,if_false]
  obtain⟨r,hr,U⟩:=zln (f:=zdu (zc1 fuel) e ((d+1:Nat):Int)) (fun s=>s.2<=e.Args.length/\(0<=s.1->∀(j:Nat) (h:j<e.Args.length),j<s.2->depE e.Args[j]<=d))
   (fun r=>0<=r->depE e<=d+1) (fun s=>e.Args.length-s.2) (fun⟨left,i⟩ ⟨hi,hI⟩=>by
     simp only at hi hI
     by_cases h1:i<e.Args.length
     ·by_cases h2:0<=left
      ·obtain⟨r,hr,U⟩:=ylk d fuel (by omega) (by omega) e.Args[i] left
       refine .inl ⟨(r,i+1),?_,⟨h1,fun h0 j I ab=>?_⟩,by simp only;omega⟩
       ·simp only[zdu,Int.ofNat_lt,h1,h2,if_true,List.getElem?_eq_getElem h1,Option.bind_some,e1,hr]
       ·by_cases aa:j=i
        ·subst aa;exact U h0
        ·exact hI h2 j I (by omega)
      ·exact .inr ⟨left,by simp[zdu,h1,h2],fun h=>(h2 h).elim⟩
     ·refine .inr ⟨left,by simp[zdu,h1],fun h=>?_⟩
      rw[zdv]
      have:=z6p (fun j I=>hI h j I (by omega))
      omega) (l0,0) ⟨Nat.zero_le _,fun _ j _ I=>by simp at I⟩
  exact⟨r,by rw[hr];rfl,U⟩
theorem z1s (e:xrx) (left:Int):∃r,zc4 e 60 left=some r/\(0<=r->depE e<=60):=ylk 60 1000000 (by omega) (by omega) e left
theorem yho:∀(d fuel:Nat),d+1<fuel->d<=1000->∀(l:List xry) (left:Int),∃r,zbn fuel l (d:Int) left=some r/\(0<=r->zf1 l<=d+60)
 |d,0,h,_,_,_=>by omega
 |d,fuel+1,h,hd,[],left=>by
  simp only[zbn,zec,List.length_nil]
  have e0:¬(0<((0:Nat):Int)):=by omega
  simp only[e0,if_false]
  generalize w64 (left-((0:Nat):Int))=l0
  by_cases hl:l0<0
  ·exact⟨-1,by simp[hl],by omega⟩
  ·refine⟨l0,?_,fun _=>by simp[zf1]⟩
   simp only[hl,if_false];rw[zcj (r:=l0) (by simp[zj9])];rfl
 |0,fuel+1,_,_,s::l,left=>⟨-1,by simp[zbn,zec],by omega⟩
 |d+1,fuel+1,h,hd,s::l,left=>by
  generalize aa:s::l=I
  have e1:w64 (((d+1:Nat):Int)-1)=(d:Int):=by rw[z5e (by omega) (by omega)];omega
  have e2:¬(((d+1:Nat):Int)<1):=by omega
  have e3:0<(I.length:Int):=by subst aa;simp
  simp only[zbn,zec,e2,e3,if_true,if_false]
  generalize w64 (left-(I.length:Int))=l0
  by_cases hl:l0<0
  ·exact⟨-1,by simp[hl],by omega⟩
  simp only[hl,if_false]
  obtain⟨r,hr,hR⟩:=zln (f:=zb4 (zbn fuel) I ((d+1:Nat):Int)) (fun s=>s.2<=I.length/\(0<=s.1->∀(j:Nat) (h:j<I.length),j<s.2->depS I[j]<=d+1+60))
   (fun r=>0<=r->zf1 I<=d+1+60) (fun s=>I.length-s.2) (fun⟨left,i⟩ ⟨hi,hI⟩=>by
     simp only at hi hI
     by_cases h1:i<I.length
     ·by_cases h2:0<=left
      ·generalize hs:I[i]=s at*
       have next:∀r:Int,(0<=r->depS s<=d+1+60)->(i+1<=I.length/\(0<=r->∀(j:Nat) (h:j<I.length),j<i+1->depS I[j]<=d+1+60)):=fun r hr=>⟨h1,fun h0 j U ar=>by
        by_cases ab:j=i
        ·subst ab;rw[hs];exact hr h0
        ·exact hI h2 j U (by omega)⟩
       obtain⟨r1,ad,ae⟩:=z1s s.Target (w64 (left-(w64 ((s.Name.length:Int).tdiv 100))))
       have base:zb4 (zbn fuel) I ((d+1:Nat):Int) (left,i)=zb4 (zbn fuel) I ((d+1:Nat):Int) (left,i):=rfl
       conv at base=>rhs;simp only[zb4,Int.ofNat_lt,h1,h2,if_true,List.getElem?_eq_getElem h1,Option.bind_some,hs,ad,e1]
       by_cases k1:0<=r1
       case neg=>exact .inl ⟨(r1,i+1),by rw[base];simp[k1],next r1 (fun h=>(k1 h).elim),by simp only;omega⟩
       obtain⟨r2,af,ai⟩:=z1s s.Value r1;simp only[k1,if_true,af,Option.bind_some]at base
       by_cases k2:0<=r2
       case neg=>exact .inl ⟨(r2,i+1),by rw[base];simp[k2],next r2 (fun h=>(k2 h).elim),by simp only;omega⟩
       obtain⟨r3,aj,ak⟩:=z1s (⟨0,0,0,[],s.Args⟩:xrx) r2;simp only[k2,if_true,aj,Option.bind_some]at base
       by_cases k3:0<=r3
       case neg=>exact .inl ⟨(r3,i+1),by rw[base];simp[k3],next r3 (fun h=>(k3 h).elim),by simp only;omega⟩
       obtain⟨r4,al,an⟩:=yho d fuel (by omega) (by omega) s.Body r3;simp only[k3,if_true,al,Option.bind_some]at base
       by_cases k4:0<=r4
       case neg=>exact .inl ⟨(r4,i+1),by rw[base];simp[k4],next r4 (fun h=>(k4 h).elim),by simp only;omega⟩
       obtain⟨r5,ao,aq⟩:=yho d fuel (by omega) (by omega) s.Else r4;simp only[k4,if_true,ao,Option.bind_some]at base
       refine .inl ⟨(r5,i+1),base,next r5 (fun h0=>?_),by simp only;omega⟩
       have a1:=ae k1;have a2:=ai k2;have a3:=ak k3;have a4:=an k4;have a5:=aq h0
       rw[zdv]at a3;rw[zt7];simp only at a3;omega
      ·exact .inr ⟨left,by simp[zb4,h1,h2],fun h=>(h2 h).elim⟩
     ·exact .inr ⟨left,by simp[zb4,h1],fun h=>z6o (fun j U=>hI h j U (by omega))⟩) (l0,0) ⟨Nat.zero_le _,fun _ j _ U=>by simp at U⟩
  exact⟨r,by rw[hr];rfl,hR⟩
theorem ydp (l:List xry) (left:Int):∃r,zlv l 60 left=some r/\(0<=r->zf1 l<=120):=yho 60 1000000 (by omega) (by omega) l left
theorem ylj (p:xrw):zd8 p=some 0\/(zd8 p=some 1/\∀t∈p.Tasks,zf1 t.Body<=120):=by
 unfold zd8;split
 ·exact .inl rfl
 split
 ·exact .inl rfl
 obtain⟨r,hr,I⟩:=zln (f:=zcr p) (fun i=>i<=p.Tasks.length/\∀(j:Nat) (h:j<p.Tasks.length),j<i->zf1 p.Tasks[j].Body<=120)
  (fun r=>r=.inl 0\/(r=.inr ()/\∀t∈p.Tasks,zf1 t.Body<=120)) (fun i=>p.Tasks.length-i) (fun i ⟨hi,hI⟩=>by
    by_cases h1:i<p.Tasks.length
    ·by_cases h2:100<(p.Tasks[i].Budget.length:Int)
     ·exact .inr ⟨.inl 0,by simp[zcr,h1,h2],.inl rfl⟩
     ·obtain⟨r,hr,I⟩:=ydp p.Tasks[i].Body 2000
      have aa:¬(100<p.Tasks[i].Budget.length):=by omega
      by_cases h3:r<0
      ·exact .inr ⟨.inl 0,by simp[zcr,h1,h2,aa,hr,h3],.inl rfl⟩
      ·refine .inl ⟨i+1,by simp[zcr,h1,h2,aa,hr,h3],⟨h1,fun j U ad=>?_⟩,by omega⟩
       by_cases ab:j=i
       ·subst ab;exact I (by omega)
       ·exact hI j U (by omega)
    ·refine .inr ⟨.inr (),by simp[zcr,h1],.inr ⟨rfl,fun t ht=>?_⟩⟩
     obtain⟨j,U,rfl⟩:=List.getElem_of_mem ht
     exact hI j U (by omega)) 0 ⟨Nat.zero_le _,fun j _ U=>by simp at U⟩
 rw[hr]
 rcases I with rfl|⟨rfl,I⟩
 ·exact .inl rfl
 ·exact .inr ⟨rfl,I⟩
def atOk (p:xrw) (op:Int) (name:Str):Bool:=
 if op=2\/op=3 then decide (0<=varN p name)else if op=4 then decide (0<=zh6 p name)else if op=21 then decide (0<=zn2 p name)else true
mutual
def zn9 (p:xrw):xrx->Bool
 |⟨op,_,_,name,args⟩=>atOk p op name&&zms p args
def zms (p:xrw):List xrx->Bool
 |[]=>true
 |e::es=>zn9 p e&&zms p es
end
def ygw (p:xrw) (kind:Int) (name:Str):Bool:=
 if kind=4 then decide (0<=varN p name)else if kind=5 then decide (0<=zh6 p name)else true
mutual
def z61 (p:xrw):xry->Bool
 |⟨kind,name,target,value,args,body,I⟩=>ygw p kind name&&zn9 p target&&zn9 p value&&zms p args&&zmw p body&&zmw p I
def zmw (p:xrw):List xry->Bool
 |[]=>true
 |e::es=>z61 p e&&zmw p es
end
theorem yab (p:xrw) (e:xrx):zn9 p e=(atOk p e.Op e.Name&&zms p e.Args):=by cases e;rw[zn9]
theorem ycc (p:xrw) (s:xry):z61 p s=(ygw p s.Kind s.Name&&zn9 p s.Target&&zn9 p s.Value&&zms p s.Args&&zmw p s.Body&&zmw p s.Else):=by cases s;rw[z61]
end Go.Lz

end
section
namespace Go.Lz
theorem zxy (p:xrw):∀l:List xrx,zms p l=l.all (zn9 p)
 |[]=>rfl
 |e::es=>by rw[zms,List.all_cons,zxy p es]
theorem z0a (p:xrw):∀l:List xry,zmw p l=l.all (z61 p)
 |[]=>rfl
 |e::es=>by rw[zmw,List.all_cons,z0a p es]
theorem zv3 (p:xrw) (l:List xrx) (n:Nat) (I:∀x∈l,(zar n).1 p x=some (zn9 p x)):(zar (n+1)).2 p l=some (zms p l):=by
 show zel (zar n).1 (zar n).2 p l=_
 unfold zel
 rw[zq1 (xs:=l) (p:=zn9 p) (a:=.inl false) (b:=.inr ()) (fun i h=>by
  simp only[zf5,Int.ofNat_lt,h,if_true,List.getElem?_eq_getElem h,Option.bind_some,I _ (List.getElem_mem h)]
  split<;>rfl) (by simp[zf5]),zxy]
 cases l.all (zn9 p)<;>rfl
theorem zw3 (p:xrw):∀(n:Nat) (e:xrx),2*depE e<=n->(zar n).1 p e=some (zn9 p e)
 |0,e,h=>by rw[zdv]at h;omega
 |1,e,h=>by rw[zdv]at h;omega
 |n+2,e,h=>by
  rw[zdv]at h
  have ha:=zv3 p e.Args n fun x I=>zw3 p n x (by have:=zf2 I;omega)
  show ze0 (zar (n+1)).1 (zar (n+1)).2 p e=_
  unfold ze0;simp only[ha,zpu,zmp,ztc,Option.bind_some,yab,atOk]
  by_cases h2:e.Op=2
  ·by_cases hv:varN p e.Name<0
   ·simp[h2,hv,show¬0<=varN p e.Name by omega]
   ·simp[h2,hv,show 0<=varN p e.Name by omega]
  by_cases h3:e.Op=3
  ·by_cases hv:varN p e.Name<0
   ·simp[h3,hv,show¬0<=varN p e.Name by omega]
   ·simp[h3,hv,show 0<=varN p e.Name by omega]
  by_cases h4:e.Op=4
  ·by_cases hv:zh6 p e.Name<0
   ·simp[h4,hv,show¬0<=zh6 p e.Name by omega]
   ·simp[h4,hv,show 0<=zh6 p e.Name by omega]
  by_cases h5:e.Op=21
  ·by_cases hv:zn2 p e.Name<0
   ·simp[h5,hv,show¬0<=zn2 p e.Name by omega]
   ·simp[h5,hv,show 0<=zn2 p e.Name by omega]
  simp[h2,h3,h4,h5]
theorem z82 {p:xrw} {e:xrx} (h:depE e<=1000):zcl p e=some (zn9 p e):=zw3 p 1000000 e (by omega)
theorem ycl {p:xrw} {l:List xrx} (h:zng l<=1000):zfn p l=some (zms p l):=
 zv3 p l 999999 fun x I=>zw3 p _ x (by have:=zf2 I;omega)
theorem zvg (p:xrw):∀(n:Nat) (l:List xry),zf1 l+1<=n->zf1 l<=1000->zem n p l=some (zmw p l)
 |0,l,h,_=>by omega
 |n+1,l,h,hd=>by
  show zen (zem n) p l=_
  unfold zen;rw[zq1 (xs:=l) (p:=z61 p) (a:=.inl false) (b:=.inr ()) (fun i hi=>?_) (by simp[zf6]),z0a]
  ·cases l.all (z61 p)<;>rfl
  ·simp only[zf6,Int.ofNat_lt,hi,if_true,List.getElem?_eq_getElem hi,Option.bind_some]
   have dx:=zm8 (List.getElem_mem hi)
   generalize l[i]=x at dx
   rw[zt7]at dx;rw[zvg p n x.Body (by omega) (by omega),zvg p n x.Else (by omega) (by omega),z82 (e:=x.Target) (by omega),z82 (e:=x.Value) (by omega),ycl (l:=x.Args) (by omega)];simp only[zpu,zmp,Option.bind_some,ycc,ygw]
   generalize zn9 p x.Target=I
   generalize zn9 p x.Value=U
   generalize zms p x.Args=b3
   generalize zmw p x.Body=b4
   generalize zmw p x.Else=b5
   by_cases h4:x.Kind=4
   ·by_cases hv:varN p x.Name<0
    ·simp[h4,hv,show¬0<=varN p x.Name by omega]
    ·simp[h4,hv,show 0<=varN p x.Name by omega]
     cases I<;>cases U<;>cases b3<;>cases b4<;>cases b5<;>rfl
   by_cases h5:x.Kind=5
   ·by_cases hv:zh6 p x.Name<0
    ·simp[h5,hv,show¬0<=zh6 p x.Name by omega]
    ·simp[h5,hv,show 0<=zh6 p x.Name by omega]
     cases I<;>cases U<;>cases b3<;>cases b4<;>cases b5<;>rfl
   simp only[h4,h5,if_false];cases I<;>cases U<;>cases b3<;>cases b4<;>cases b5<;>rfl
theorem ycm {p:xrw} {l:List xry} (h:zf1 l<=1000):zko p l=some (zmw p l):=zvg p 1000000 l (by omega) h
theorem z87 {α:Type} {xs:List α} {g:α->Str} {f:List Str×Nat->Option ((List Str×Nat)⊕List Str)} (h:xs.length<=1000) (step:∀l i (h:i<xs.length),f (l,i)=need ((l.length+1)*16<=140737488355328) (some (.inl (l++[g xs[i]],i+1)))) (last:∀l,f (l,xs.length)=some (.inr l)) (l0:List Str) (h0:l0.length<=10000):
  Tot (loop f (l0,0)) fun r=>r.length<=l0.length+1000:=by
 refine Tot.loop (fun x=>x.2<=xs.length/\x.1.length<=l0.length+x.2) (fun x=>xs.length-x.2) ⟨Nat.zero_le _,by simp⟩ fun⟨l,i⟩ ⟨hi,hI⟩=>?_;simp only at hi hI
 by_cases I:i<xs.length
 ·rw[step l i I]
  exact Tot.need (by omega) (Tot.mk ⟨⟨I,by simp only[List.length_append,List.length_singleton];omega⟩,by simp only;omega⟩)
 ·have:i=xs.length:=by omega
  subst this;exact⟨_,last l,show l.length<=_ by omega⟩
theorem yio (p:xrw) (hv:p.Vars.length<=1000) (hb:p.Blocks.length<=1000) (hs:p.Sites.length<=1000) (hd:∀t∈p.Tasks,zf1 t.Body<=1000):Tot (zfo p) fun r=>r=0->∀t∈p.Tasks,zmw p t.Body=true:=by
 unfold zfo
 refine(z87 (g:=(·.Name)) hv (fun l i h=>by simp only[zga,Int.ofNat_lt,h,if_true,List.getElem?_eq_getElem h,Option.bind_some]) (fun l=>by simp[zga]) [] (by simp)).bind fun l1 h1=>?_
 simp only[List.length_nil]at h1
 refine(z87 (g:=(·.Name)) hb (fun l i h=>by simp only[zf9,Int.ofNat_lt,h,if_true,List.getElem?_eq_getElem h,Option.bind_some]) (fun l=>by simp[zf9]) l1 (by omega)).bind fun l2 h2=>?_
 refine(z87 (g:=(·.Name)) hs (fun l i h=>by simp only[zf8,Int.ofNat_lt,h,if_true,List.getElem?_eq_getElem h,Option.bind_some]) (fun l=>by simp[zf8]) l2 (by omega)).bind fun I h3=>?_
 refine Tot.bind (Tot.loop (fun i=>i<=I.length) (R:=fun r=>match r with|.inl r=>r=5|.inr ()=>True) (fun i=>I.length-i) (Nat.zero_le _) fun i hi=>?_) fun r hr=>?_
 ·unfold ziz
  refine Tot.ite (fun h=>?_) fun _=>Tot.mk trivial
  have h':i<I.length:=by omega
  refine Tot.bind (Tot.loop (fun k=>k<=i) (R:=fun r=>match r with|.inl r=>r=5|.inr ()=>True) (fun k=>i-k) (Nat.zero_le _) fun k hk=>?_) fun r hr=>?_
  ·unfold ziy
   refine Tot.ite (fun h=>?_) fun _=>Tot.mk trivial
   have aa:k<i:=by omega
   exact(Tot.get h').bind fun x _=>(Tot.get (by omega)).bind fun y _=>Tot.ite (fun _=>Tot.mk rfl) fun _=>Tot.mk ⟨aa,by simp only;omega⟩
  ·cases r with
   |inl r=>exact Tot.mk hr
   |inr r=>exact Tot.mk ⟨h',by simp only;omega⟩
 cases r with
 |inl r=>
  simp only at hr;subst hr
  exact Tot.mk fun h=>by cases h
 |inr r=>
  simp only
  rw[zq1 (xs:=p.Tasks) (p:=fun t=>zmw p t.Body) (a:=.inl 5) (b:=.inr ()) (fun i h=>by
   simp only[zf7,Int.ofNat_lt,h,if_true,List.getElem?_eq_getElem h,Option.bind_some,ycm (hd _ (List.getElem_mem h))]
   split<;>rfl) (by simp[zf7])]
  cases U:p.Tasks.all fun t=>zmw p t.Body with
  |true=>exact Tot.mk fun _=>List.all_eq_true.1 U
  |false=>exact Tot.mk fun h=>by cases h
end Go.Lz

end
section
namespace Go.Lz
theorem z4c {α:Type} (l:List α) (q:α->Bool):(!l.all fun x=> !q x)=l.any q:=by
 induction l with
 |nil=>rfl
 |cons x xs I=>rw[List.all_cons,List.any_cons,<-I];cases q x<;>simp
mutual
def z65 (name:Str):xry->Bool
 |⟨kind,U,target,_,_,body,I⟩=>(decide (kind=1)&&decide (target.Name=name))||(decide (kind=4)&&decide (U=name))||zvx name body||zvx name I
def zvx (name:Str):List xry->Bool
 |[]=>false
 |s::ss=>z65 name s||zvx name ss
end
theorem ycg (name:Str) (s:xry):z65 name s=((decide (s.Kind=1)&&decide (s.Target.Name=name))||(decide (s.Kind=4)&&decide (s.Name=name))||zvx name s.Body||zvx name s.Else):=by cases s;rw[z65]
theorem z2e (name:Str):∀l:List xry,zvx name l=l.any (z65 name)
 |[]=>rfl
 |e::es=>by rw[zvx,List.any_cons,z2e name es]
theorem z04 (name:Str):∀(n:Nat) (l:List xry),zf1 l+1<=n->zey n l name=some (zvx name l)
 |0,l,h=>by omega
 |n+1,l,h=>by
  show zez (zey n) l name=_
  unfold zez;rw[zq1 (xs:=l) (p:=fun x=> !z65 name x) (a:=.inl true) (b:=.inr ()) (fun i hi=>?_) (by simp[zha]),z2e,<-z4c]
  ·cases l.all fun x=> !z65 name x<;>rfl
  ·simp only[zha,Int.ofNat_lt,hi,if_true,List.getElem?_eq_getElem hi,Option.bind_some]
   have dx:=zm8 (List.getElem_mem hi)
   generalize l[i]=x at dx
   rw[zt7]at dx;rw[z04 name n x.Body (by omega),z04 name n x.Else (by omega),ycg];simp only[Option.bind_some]
   by_cases I:x.Kind=1
   ·by_cases t:x.Target.Name=name
    ·simp[I,t]
    ·simp[I,t];cases zvx name x.Body<;>cases zvx name x.Else<;>rfl
   by_cases U:x.Kind=4
   ·by_cases t:x.Name=name
    ·simp[U,t]
    ·simp[U,t];cases zvx name x.Body<;>cases zvx name x.Else<;>rfl
   simp[I,U];cases zvx name x.Body<;>cases zvx name x.Else<;>rfl
structure zok (p:xrw):Prop where
 P:zkv p
 T:∀t∈p.Tasks,z77 p t
 d:∀t∈p.Tasks,zf1 t.Body<=1000
end Go.Lz

end
section
namespace Go.Lz
theorem z9d (s:Str):Tot (zbk s) fun l=>(∀k∈l,0<=k)/\l.length<=5:=by
 unfold zbk
 repeat' (first|exact Tot.mk (by decide)|refine Tot.ite (fun _=>?_) (fun _=>?_))
theorem yhe (s:Str):Tot (zdm s) fun l=>(∀k∈l,0<=k)/\l.length<=5:=by
 unfold zdm
 repeat' (first|exact Tot.mk (by decide)|refine Tot.ite (fun _=>?_) (fun _=>?_))
theorem z5s (op k:Int):Tot (zai op k) fun r=>0<=r:=by
 unfold zai;refine(z3o k).bind fun b hb=>Tot.ite (fun _=>Tot.mk (by omega)) fun h0=>?_
 have:=hb h0
 repeat' (first|exact Tot.mk (by omega)|refine Tot.ite (fun _=>?_) (fun _=>?_))
theorem yax {α:Type} {xs:List α} {p:α->Bool} (h:0<=zs3 xs p):Tot (idx xs (zs3 xs p)) fun x=>x∈xs/\p x=true:=by
 unfold zs3 at h|-
 cases hf:xs.findIdx? p with
 |none=>rw[hf]at h;simp only at h;omega
 |some i=>
  obtain⟨hi,I,_⟩:=List.findIdx?_eq_some_iff_getElem.1 hf;exact⟨xs[i],by simp only;rw[zpi];exact List.getElem?_eq_getElem hi,List.getElem_mem hi,I⟩
theorem zxn {p:xrw} {name:Str} (h:¬varN p name<0):Tot (idx p.Vars (varN p name)) fun x=>x∈p.Vars:=(yax (by unfold varN at h;omega)).imp fun _ h=>h.1
theorem zyl {p:xrw} {name:Str} (h:¬zh6 p name<0):Tot (idx p.Blocks (zh6 p name)) fun x=>x∈p.Blocks:=(yax (by unfold zh6 at h;omega)).imp fun _ h=>h.1
theorem yeq {p:xrw} (P:zkv p):∀(n:Nat) (e:xrx),fmE e->depE e<=n->Tot (zan n p e) fun k=>0<=k
 |0,e,_,h=>by rw[zdv]at h;omega
 |n+1,e,ok,h=>by
  have F:=zwd ok
  rw[zwe]at ok;rw[zdv]at h
  have ops:=F.ops
  have sub:∀x∈e.Args,Tot (zan n p x) fun k=>0<=k:=fun x I=>yeq P n x (zkx ok.2 x I) (by have:=zf2 I;omega)
  show Tot (zaq (zan n) p e) _
  unfold zaq;simp only[zpu,zmp,ztc,Option.bind_some];refine Tot.ite (fun h1=>Tot.mk (by omega)) fun h1=>Tot.ite (fun h2=>?_) fun h2=>Tot.ite (fun h3=>?_) fun h3=>Tot.ite (fun h4=>?_) fun h4=>Tot.ite (fun aa=>?_) fun aa=>?_
  ·refine Tot.ite (fun _=>Tot.mk (by omega)) fun hv=>(zxn hv).bind fun v hv=>?_
   have U:=(P.vars v hv).kind
   exact Tot.ite (fun _=>Tot.ite (fun _=>by omega) fun _=>Tot.mk (by omega)) fun _=>Tot.mk (by omega)
  ·refine Tot.ite (fun _=>Tot.mk (by omega)) fun hv=>(zxn hv).bind fun v hv=>?_
   have U:=(P.vars v hv).kind
   exact Tot.ite (fun _=>(Tot.get (by omega)).bind fun x I=>(sub x I.1).bind fun k _=>Tot.ite (fun _=>Tot.mk (by omega)) fun _=>Tot.mk (by omega)) fun _=>Tot.mk (by omega)
  ·exact Tot.ite (fun _=>Tot.mk (by omega)) fun hv=>(zyl hv).bind fun v hv=>(z9d _).bind fun l hl=>Tot.ite (fun _=>Tot.mk (by omega)) fun a=>Tot.ite (fun _=>Tot.mk (by omega)) fun b=>(Tot.idx (by omega) (by omega)).bind fun x I=>Tot.mk (hl.1 x I)
  ·exact Tot.ite (fun _=>Tot.mk (by omega)) fun _=>(Tot.get (by omega)).bind fun x I=>(sub x I.1).bind fun k U=>Tot.mk U
  ·exact(Tot.get (by omega)).bind fun x I=>(sub x I.1).bind fun k U=>Tot.ite (fun h=>(Tot.get (by omega)).bind fun y hy=>(sub y hy.1).bind fun m _=>Tot.ite (fun _=>(z5s _ _).bind fun r hr=>Tot.mk hr) fun _=>Tot.mk (by omega)) fun _=>(z5s _ _).bind fun r hr=>Tot.mk hr
noncomputable def zfh (p:xrw) (e:xrx):Int:=(zam p e).getD 0
theorem yg8 {p:xrw} (P:zkv p) {e:xrx} (ok:fmE e) (h:depE e<=1000):zam p e=some (zfh p e)/\0<=zfh p e:=by
 obtain⟨k,h2,h0⟩:=yeq P 1000000 e ok (by omega)
 have I:zam p e=some k:=h2
 have U:zfh p e=k:=by unfold zfh;rw[I];rfl
 exact⟨by rw[U];exact I,by rw[U];exact h0⟩
theorem zqi {p:xrw} (P:zkv p) {e:xrx} (g:GoodE e):zam p e=some (zfh p e)/\0<=zfh p e:=yg8 P g.ok (by have:=g.dep;omega)
theorem z4m {p:xrw} (P:zkv p) {e:xrx} (g:GoodE e):Tot (zam p e) fun k=>0<=k:=⟨_,(zqi P g).1,(zqi P g).2⟩
theorem yjz {name:Str} {l:List xry} (h:zf1 l<=1000):Tot (zgs l name) fun _=>True:=⟨_,z04 name 1000000 l (by omega),trivial⟩
theorem ykv {p:xrw} (P:zkv p) {s:xry} (F:z3r s) (k4:s.Kind=4) (hd:zf1 s.Body<=1000):Tot (zgt p s) fun _=>True:=by
 have hl:s.Args.length=2:=by have:=F.kinds;omega
 unfold zgt;simp only[zpu,Option.bind_some]
 have key:∀k:Int,Tot ((s.Args[0]?).bind fun I=>(zam p I).bind fun U=>if U=k then((s.Args[1]?).bind fun aa=>(zam p aa).bind fun ab=>if ab=k then((zgs s.Body s.Name).bind fun ad=>some (!ad))else(some false))else(some false)) fun _=>True:=fun k=>
  (Tot.get (by omega)).bind fun x hx=>(z4m P (F.args x hx.1)).bind fun _ _=>Tot.ite (fun _=>(Tot.get (by omega)).bind fun y hy=>(z4m P (F.args y hy.1)).bind fun _ _=>Tot.ite (fun _=>(yjz hd).bind fun _ _=>Tot.mk trivial) fun _=>Tot.mk trivial) fun _=>Tot.mk trivial
 exact Tot.ite (fun _=>Tot.mk trivial) fun hv=>(zxn hv).bind fun v _=>Tot.ite (fun _=>Tot.ite (fun _=>Tot.ite (fun _=>key _) fun _=>Tot.ite (fun _=>key _) fun _=>Tot.mk trivial) fun _=>Tot.mk trivial) fun _=>Tot.mk trivial
theorem ym3 {p:xrw} (P:zkv p) {s:xry} (F:z3r s):Tot (zgu p s) fun _=>True:=by
 unfold zgu;simp only[zmp,Option.bind_some];refine Tot.ite (fun _=>Tot.mk trivial) fun hb=>(zyl hb).bind fun b _=>(yhe _).bind fun l _=>Tot.ite (fun e=>?_) fun _=>Tot.mk trivial
 refine Tot.bind (Tot.loop (fun i=>i<=l.length) (R:=fun _=>True) (fun i=>l.length-i) (Nat.zero_le _) fun i hi=>?_) fun r _=>by cases r<;>exact Tot.mk trivial
 unfold zjj;exact Tot.ite (fun h=>(Tot.get (by omega)).bind fun x I=>(z4m P (F.args x I.1)).bind fun _ _=>(Tot.get (by omega)).bind fun _ _=>Tot.ite (fun _=>Tot.mk ⟨by omega,by simp only;omega⟩) fun _=>Tot.mk trivial) fun _=>Tot.mk trivial
theorem yko {p:xrw} (P:zkv p) {s:xry} (F:z3r s) (hd:zf1 s.Body<=1000):Tot (zfe p s) fun _=>True:=by
 have K:=F.kinds
 unfold zfe;simp only[zpu,Option.bind_some];refine Tot.ite (fun k=>?_) fun k1=>?_
 ·have U:GoodE s.Target/\GoodE s.Value:=by
   rcases K with h|h|h|h
   ·exact⟨h.2.2.2.2.1,h.2.2.2.2.2.2⟩
   all_goals omega
  exact(z4m P U.1).bind fun _ _=>Tot.ite (fun h=>(zxn (by omega)).bind fun _ _=>Tot.ite (fun _=>Tot.mk trivial) fun _=>Tot.ite (fun _=>Tot.mk trivial) fun _=>(z4m P U.2).bind fun _ _=>Tot.mk trivial) fun _=>Tot.mk trivial
 have I:(s.Kind=2\/s.Kind=3)->GoodE s.Value:=fun k=>by
  rcases K with h|h|h|h
  ·omega
  ·exact h.2.2.2
  all_goals omega
 exact Tot.ite (fun k=>(z4m P (I (.inl k))).bind fun _ _=>Tot.mk trivial) fun _=>Tot.ite (fun k=>(z4m P (I (.inr k))).bind fun _ _=>Tot.mk trivial) fun _=>Tot.ite (fun k=>(ykv P F k hd).bind fun _ _=>Tot.mk trivial) fun _=>(ym3 P F).bind fun _ _=>Tot.mk trivial
theorem z01 {p:xrw} (P:zkv p):∀(n:Nat) (l:List xry),fmSs l->zf1 l<=1000->zf1 l+1<=n->Tot (zc6 n p l) fun _=>True
 |0,l,_,_,h=>by omega
 |n+1,l,ok,hd,h=>by
  show Tot (zcd (zc6 n) p l) _
  unfold zcd
  refine Tot.bind (Tot.loop (fun i=>i<=l.length) (R:=fun _=>True) (fun i=>l.length-i) (Nat.zero_le _) fun i hi=>?_) fun r _=>by cases r<;>exact Tot.mk trivial
  unfold zf4;refine Tot.ite (fun h'=>(Tot.get (by omega)).bind fun x U=>?_) fun _=>Tot.mk trivial
  have I:=zwc ok x U.1
  have dx:=zm8 U.1
  have F:=zyj I
  rw[z3e]at I;rw[zt7]at dx;refine(yko P F (by omega)).bind fun _ _=>Tot.ite (fun _=>?_) fun _=>Tot.mk trivial;refine(z01 P n x.Body I.2.1 (by omega) (by omega)).bind fun _ _=>Tot.ite (fun _=>?_) fun _=>Tot.mk trivial;exact(z01 P n x.Else I.2.2 (by omega) (by omega)).bind fun _ _=>Tot.ite (fun _=>Tot.mk ⟨by omega,by simp only;omega⟩) fun _=>Tot.mk trivial
theorem yin {p:xrw} (G:zok p):Tot (zbe p) fun _=>True:=by
 have P:=G.P
 unfold zbe;refine Tot.bind (Tot.loop (fun i=>i<=p.Vars.length) (R:=fun _=>True) (fun i=>p.Vars.length-i) (Nat.zero_le _) fun i hi=>?_) fun r _=>?_
 ·unfold zd0
  refine Tot.ite (fun U=>(Tot.get (by omega)).bind fun x I=>(z8f _).bind fun _ _=>Tot.ite (fun _=>Tot.ite (fun _=>(zwz _ _).bind fun _ _=>Tot.ite (fun _=>Tot.mk ⟨by omega,by simp only;omega⟩) fun _=>Tot.mk trivial) fun _=>Tot.ite (fun _=>(zwz _ _).bind fun _ _=>Tot.ite (fun _=>Tot.mk ⟨by omega,by simp only;omega⟩) fun _=>Tot.mk trivial) fun _=>Tot.mk trivial) fun _=>Tot.mk trivial) fun _=>Tot.mk trivial
 cases r with
 |inl r=>exact Tot.mk trivial
 |inr r=>
  refine Tot.bind (Tot.loop (fun i=>i<=p.Blocks.length) (R:=fun _=>True) (fun i=>p.Blocks.length-i) (Nat.zero_le _) fun i hi=>?_) fun r _=>?_
  ·unfold zdz
   exact Tot.ite (fun U=>(Tot.get (by omega)).bind fun x I=>(yhe _).bind fun _ _=>Tot.ite (fun _=>Tot.mk trivial) fun _=>Tot.mk ⟨by omega,by simp only;omega⟩) fun _=>Tot.mk trivial
  cases r with
  |inl r=>exact Tot.mk trivial
  |inr r=>
   refine Tot.bind (Tot.loop (fun i=>i<=p.Tasks.length) (R:=fun _=>True) (fun i=>p.Tasks.length-i) (Nat.zero_le _) fun i hi=>?_) fun r _=>by cases r<;>exact Tot.mk trivial
   unfold zdy;exact Tot.ite (fun U=>(Tot.get (by omega)).bind fun x I=>(z01 P 1000000 x.Body (G.T x I.1).ok (G.d x I.1) (by have:=G.d x I.1;omega)).bind fun _ _=>Tot.ite (fun _=>Tot.mk ⟨by omega,by simp only;omega⟩) fun _=>Tot.mk trivial) fun _=>Tot.mk trivial
end Go.Lz

end
section
namespace Go.Lz
theorem yqj {s:List xr7} {f:xr7->Option Bool} {p:xr7->Bool} (h:∀x∈s,f x=some (p x)):zci s f=some (zs3 s p):=
 zmg (fun i hi=>by simp[zb5,hi,h _ (List.getElem_mem hi)];cases p s[i]<;>rfl) (by simp[zb5])
theorem yhb {s:List xr9} {f:xr9->Option Bool} {p:xr9->Bool} (h:∀x∈s,f x=some (p x)):zb2 s f=some (zs3 s p):=
 zmg (fun i hi=>by simp[zbr,hi,h _ (List.getElem_mem hi)];cases p s[i]<;>rfl) (by simp[zbr])
theorem yk8 {s:List xsb} {f:xsb->Option Bool} {p:xsb->Bool} (h:∀x∈s,f x=some (p x)):zca s f=some (zs3 s p):=
 zmg (fun i hi=>by simp[zbv,hi,h _ (List.getElem_mem hi)];cases p s[i]<;>rfl) (by simp[zbv])
theorem zuk (p:xrw) (name:Str):zks p name=some (varN p name):=by
 unfold zks zju;rw[yqj (f:=zh8 zqw name) (p:=fun v=>decide (v.Name=name)) (fun x _=>rfl)];rfl
theorem zw5 (p:xrw) (name:Str):zk0 p name=some (zh6 p name):=by
 unfold zk0 zh9;rw[yhb (f:=zg9 znp name) (p:=fun v=>decide (v.Name=name)) (fun x _=>rfl)];rfl
theorem zy7 (p:xrw) (name:Str):zme p name=some (zn2 p name):=by
 unfold zme zil;rw[yk8 (f:=zhy zot name) (p:=fun v=>decide (v.Name=name)) (fun x _=>rfl)];rfl
end Go.Lz

end
section
namespace Go.Lz
theorem ygx (s:Str):zmv s=zbk s:=rfl
theorem yix (k:Int):zeu k=za2 k:=rfl
theorem z5r (op k:Int):∃r,0<=r/\(k=0->r=0)/\zi9 op k=some r/\zai op k=some r:=by
 unfold zi9 zai;rw[yix];obtain⟨b,hb,I⟩:=z3o k;rw[hb,Option.bind_some,Option.bind_some]
 by_cases h0:b=0
 ·exact⟨0,by omega,fun _=>rfl,by rw[if_pos h0],by rw[if_pos h0]⟩
 rw[if_neg h0,if_neg h0]
 have I:=I h0
 have num:∃r,0<=r/\(k=0->r=0)/\(if k=1 then some (0:Int)else some k)=some r:=by
  by_cases h:k=1
  ·exact⟨0,by omega,fun _=>rfl,by rw[if_pos h]⟩
  ·exact⟨k,by omega,fun h=>h,by rw[if_neg h]⟩
 have bit:∃r,0<=r/\(k=0->r=0)/\(if k=4 then some (0:Int)else some k)=some r:=by
  by_cases h:k=4
  ·exact⟨0,by omega,fun _=>rfl,by rw[if_pos h]⟩
  ·exact⟨k,by omega,fun h=>h,by rw[if_neg h]⟩
 have ord:∃r,0<=r/\(k=0->r=0)/\(if k=1 then some (0:Int)else some 1)=some r:=by
  by_cases h:k=1
  ·exact⟨0,by omega,fun _=>rfl,by rw[if_pos h]⟩
  ·exact⟨1,by omega,fun h=>by omega,by rw[if_neg h]⟩
 obtain⟨rn,n0,n1,hn⟩:=num;obtain⟨rb,b0,b1,U⟩:=bit;obtain⟨ro,o0,o1,ho⟩:=ord;rw[hn,U,ho]
 by_cases c1:op=5\/(7<=op/\op<=11)
 ·refine⟨rn,n0,n1,?_,?_⟩
  ·rcases c1 with h|⟨h,h'⟩
   ·simp[h]
   ·have:op=7\/op=8\/op=9\/op=10\/op=11:=by omega
    rcases this with h|h|h|h|h<;>simp[h]
  ·rcases c1 with h|⟨h,h'⟩
   ·simp[h]
   ·by_cases h5:op=5
    ·omega
    ·rw[if_neg h5,if_pos h,if_pos h']
 by_cases c2:op=6\/(18<=op/\op<=20)
 ·refine⟨rb,b0,b1,?_,?_⟩
  ·have:op=6\/op=18\/op=19\/op=20:=by omega
   rcases this with h|h|h|h<;>simp[h]
  ·have:op=6\/op=18\/op=19\/op=20:=by omega
   rcases this with h|h|h|h<;>simp[h]
 by_cases c3:op=12\/op=13
 ·refine⟨1,by omega,fun h=>by omega,?_,?_⟩<;>rcases c3 with h|h<;>simp[h]
 by_cases c4:14<=op/\op<=17
 ·refine⟨ro,o0,o1,?_,?_⟩
  ·have:op=14\/op=15\/op=16\/op=17:=by omega
   rcases this with h|h|h|h<;>simp[h]
  ·have:op=14\/op=15\/op=16\/op=17:=by omega
   rcases this with h|h|h|h<;>simp[h]
 refine⟨0,by omega,fun _=>rfl,?_,?_⟩
 ·rw[if_neg (by omega),if_neg (by omega),if_neg (by omega),if_neg (by omega),if_neg (by omega),if_neg (by omega),if_neg (by omega),if_neg (by omega),if_neg (by omega),if_neg (by omega),if_neg (by omega),if_neg (by omega),if_neg (by omega),if_neg (by omega),if_neg (by omega),if_neg (by omega)]
 ·repeat' (first|rfl|rw[if_neg (by omega)]|(split<;>first|omega|skip))
def Two {α:Type} (x y:Option α) (Q:α->Prop):Prop:=∃r,x=some r/\y=some r/\Q r
section
variable {α β:Type} {x y:Option α} {Q:α->Prop} {f g:α->Option β} {R:β->Prop}
theorem Two.bind (h:Two x y Q) (k:∀a,Q a->Two (f a) (g a) R):Two (x.bind f) (y.bind g) R:=by
 obtain⟨a,rfl,rfl,hq⟩:=h;exact k a hq
theorem Two.ite {c:Prop} [Decidable c] {I U:Option α} (a:c->Two x y Q) (b:¬c->Two I U Q):Two (if c then x else I) (if c then y else U) Q:=by
 by_cases h:c
 ·rw[if_pos h,if_pos h];exact a h
 ·rw[if_neg h,if_neg h];exact b h
theorem Two.mk {a:α} (h:Q a):Two (some a) (some a) Q:=⟨a,rfl,rfl,h⟩
theorem Two.same (h:Tot x Q):Two x x Q:=by
 obtain⟨a,rfl,hq⟩:=h;exact⟨a,rfl,rfl,hq⟩
theorem Two.imp {I:α->Prop} (h:Two x y Q) (k:∀a,Q a->I a):Two x y I:=by
 obtain⟨a,U,e2,hq⟩:=h;exact⟨a,U,e2,k a hq⟩
end
theorem z0c (op k:Int):Two (zi9 op k) (zai op k) fun r=>0<=r:=by
 obtain⟨r,h0,_,h1,h2⟩:=z5r op k;exact⟨r,h1,h2,h0⟩
theorem ye2 (l:List Int) (f:Int->Option Bool) (q:Int->Bool) (h:∀x∈l,f x=some (q x)):zck l f=some (l.any q):=by
 have I:zfa l f=some (zs3 l q):=zmg (fun i hi=>by simp[zdw,hi,h _ (List.getElem_mem hi)];cases q l[i]<;>rfl) (by simp[zdw])
 unfold zck;rw[I,Option.bind_some,yiz]
theorem yae {R:xrw->xrx->Option Int} {p:xrw} {e:xrx} (h:e.Args.length=0):loop (zdf R p e) (List.replicate e.Args.length 0,0)=some []:=by
 rw[zcj (r:=[]) (by simp[zdf,h])]
theorem yad {R:xrw->xrx->Option Int} {p:xrw} {e a:xrx} {k:Int} (h:e.Args=[a]) (I:R p a=some k):loop (zdf R p e) (List.replicate e.Args.length 0,0)=some [k]:=by
 rw[zjv (s':=([k],1)) (by simp[zdf,h,I]),zcj (r:=[k]) (by simp[zdf,h])]
theorem yac {R:xrw->xrx->Option Int} {p:xrw} {e a b:xrx} {k m:Int} (h:e.Args=[a,b]) (I:R p a=some k) (hm:R p b=some m):loop (zdf R p e) (List.replicate e.Args.length 0,0)=some [k,m]:=by
 rw[zjv (s':=([k,0],1)) (by simp[zdf,h,I]),zjv (s':=([k,m],2)) (by simp[zdf,h,hm]),zcj (r:=[k,m]) (by simp[zdf,h])]
theorem ycu {l:List xrx} (h:l.length=1):∃a,l=[a]:=by
 match l,h with
 |[a],_=>exact⟨a,rfl⟩
theorem ydc {p:xrw} (P:zkv p):∀(n:Nat) (e:xrx),fmE e->depE e<=n->Two (zli n p e) (zan n p e) fun k=>0<=k
 |0,e,_,h=>by rw[zdv]at h;omega
 |n+1,e,ok,h=>by
  have F:=zwd ok
  rw[zwe]at ok;rw[zdv]at h
  have ops:=F.ops
  show Two (zlj (zli n) p e) (zaq (zan n) p e) _
  unfold zlj zaq
  have hn:(0:Int)<=(e.Args.length:Int)/\8*(e.Args.length:Int)<=140737488355328:=by omega
  rw[zf3 hn]
  by_cases h0:e.Args.length=0
  ·rw[yae h0,Option.bind_some]
   refine Two.ite (fun _=>Two.mk (by omega)) fun h1=>Two.ite (fun h2=>?_) fun h2=>?_
   ·simp only[zuk,zpu,Option.bind_some]
    refine Two.ite (fun _=>Two.mk (by omega)) fun hv=>(Two.same (zxn hv)).bind fun v hv=>?_
    have hk:=(P.vars v hv).kind
    exact Two.ite (fun _=>Two.ite (fun _=>by omega) fun _=>Two.mk (by omega)) fun _=>Two.mk (by omega)
   rw[if_neg (by omega),if_neg (show¬e.Op=3 by omega)]
   refine Two.ite (fun h4=>?_) fun h4=>by omega
   simp only[zw5,zmp,Option.bind_some];refine Two.ite (fun _=>Two.mk (by omega)) fun hv=>(Two.same (zyl hv)).bind fun v hv=>?_;rw[ygx];refine(Two.same (z9d v.Kind)).bind fun l hl=>?_
   by_cases a:0<=e.N
   ·rw[if_pos a,if_neg (show¬e.N<0 by omega)]
    by_cases b:e.N<(l.length:Int)
    ·rw[if_pos b,if_neg (by omega)]
     exact(Two.same (Tot.idx a b)).bind fun x hx=>Two.mk (hl.1 x hx)
    ·rw[if_neg b,if_pos (by omega)];exact Two.mk (by omega)
   ·rw[if_neg a,if_pos (by omega)];exact Two.mk (by omega)
  by_cases h1:e.Args.length=1
  ·obtain⟨x,hx⟩:=ycu h1
   have aa:fmE x:=zkx ok.2 x (by rw[hx];simp)
   have dx:depE x<=n:=by rw[hx]at h;simp only[zng]at h;omega
   obtain⟨k,k1,k2,k0⟩:=ydc P n x aa dx;rw[yad hx k1,Option.bind_some];rw[hx];simp only[List.getElem?_cons_zero,Option.bind_some,k2,List.length_cons,List.length_nil];rw[if_neg (show¬e.Op=1 by omega),if_neg (show¬e.Op=1 by omega),if_neg (show¬e.Op=2 by omega),if_neg (show¬e.Op=2 by omega)];refine Two.ite (fun h3=>?_) fun h3=>?_
   ·simp only[zuk,zpu,Option.bind_some]
    refine Two.ite (fun _=>Two.mk (by omega)) fun hv=>(Two.same (zxn hv)).bind fun v hv=>?_
    have hk:=(P.vars v hv).kind
    refine Two.ite (fun _=>?_) fun _=>Two.mk (by omega);rw[if_pos (by omega)];exact Two.ite (fun _=>Two.mk (by omega)) fun _=>Two.mk (by omega)
   rw[if_neg (show¬e.Op=4 by omega),if_neg (show¬e.Op=4 by omega)];refine Two.ite (fun h4=>?_) fun h4=>?_
   ·simp only[zy7,ztc,Option.bind_some]
    by_cases hs:zn2 p e.Name<0
    ·rw[if_neg (by omega),if_pos hs];exact Two.mk (by omega)
    ·rw[if_pos (by omega),if_neg hs,if_pos (by omega)];exact Two.mk k0
   rw[if_pos (by omega),if_neg (by omega),ye2 [k] _ (fun x=> !decide (x=k)) (fun x _=>by simp[zlk]),Option.bind_some];rw[if_neg (by simp)];exact(z0c e.Op k).bind fun r hr=>Two.mk hr
  ·have h2:e.Args.length=2:=by omega
   obtain⟨x,y,I⟩:=z0w h2
   have aa:fmE x:=zkx ok.2 x (by rw[I];simp)
   have ab:fmE y:=zkx ok.2 y (by rw[I];simp)
   rw[I]at h;simp only[zng]at h;obtain⟨k,k1,k2,k0⟩:=ydc P n x aa (by omega);obtain⟨m,m1,m2,m0⟩:=ydc P n y ab (by omega);rw[yac I k1 m1,Option.bind_some];rw[I];simp only[List.getElem?_cons_zero,List.getElem?_cons_succ,Option.bind_some,k2,m2,List.length_cons,List.length_nil];rw[if_neg (show¬e.Op=1 by omega),if_neg (show¬e.Op=1 by omega),if_neg (show¬e.Op=2 by omega),if_neg (show¬e.Op=2 by omega),if_neg (show¬e.Op=3 by omega),if_neg (show¬e.Op=3 by omega),if_neg (show¬e.Op=4 by omega),if_neg (show¬e.Op=4 by omega),if_neg (show¬e.Op=21 by omega),if_neg (show¬e.Op=21 by omega)]
   rw[if_pos (by omega),if_pos (by omega),ye2 [k,m] _ (fun x=> !decide (x=k)) (fun x _=>by simp[zlk]),Option.bind_some]
   by_cases U:m=k
   ·rw[if_neg (by simp[U]),if_pos U]
    exact(z0c e.Op k).bind fun r hr=>Two.mk hr
   ·rw[if_pos (by simp[U]),if_neg U];exact Two.mk (by omega)
theorem zz7 {p:xrw} (P:zkv p) {e:xrx} (ok:fmE e) (h:depE e<=1000):zjx p e=some (zfh p e, !decide (zfh p e=0)):=by
 obtain⟨k,h1,h2,h0⟩:=ydc P 1000000 e ok (by omega)
 have I:zvd p e=some k:=h1
 have U:zam p e=some k:=h2
 have e1:zfh p e=k:=by unfold zfh;rw[U];rfl
 unfold zjx;rw[I,Option.bind_some,e1]
end Go.Lz

end
section
namespace Go.Lz
theorem ye7 {a b:List Int} (h:a.length=b.length):(a.zip b).all (fun p=>decide (p.1=p.2))=decide (a=b):=by
 induction a generalizing b with
 |nil=>cases b with
  |nil=>rfl
  |cons y b=>simp at h
 |cons x a I=>cases b with
  |nil=>simp at h
  |cons y b=>
   rw[List.zip_cons_cons,List.all_cons,I (by simpa using h),Bool.eq_iff_iff];simp
theorem yes (a b:List Int):zbj a b=some (decide (a=b)):=by
 unfold zbj
 by_cases h:a.length=b.length
 ·have I:(a.zip b).length=a.length:=by simp[h]
  rw[if_pos (by omega),zq1 (xs:=a.zip b) (p:=fun p=>decide (p.1=p.2)) (a:=.inl false) (b:=.inr ()) (fun i hi=>by
   have h1:i<a.length:=by omega
   have h2:i<b.length:=by omega
   by_cases e:a[i]=b[i]<;>simp[zda,h1,h2,e]) (by simp[zda,I,h]),ye7 h]
  by_cases e:a=b<;>simp[e]
 ·rw[if_neg (by omega)]
  have:a≠b:=fun e=>h (by rw[e])
  simp[this]
def tOk (t:xsc):Prop:=(1<=t.Kind/\t.Kind<=4)/\0<=t.Len/\t.Len<=32/\-32768<=t.Low/\t.Low<=32767/\(t.Len=0->t.Low=0)
instance (t:xsc):Decidable (tOk t):=by unfold tOk;exact inferInstance
theorem ydi (k:Int):zeu k=some (if k=1 then 1 else if k=2 then 16 else if k=3 then 32 else if k=4 then 32 else 0):=by
 unfold zeu;repeat' split
 all_goals rfl
theorem ygi (k:Int):za2 k=some (if k=1 then 1 else if k=2 then 16 else if k=3 then 32 else if k=4 then 32 else 0):=by
 unfold za2;repeat' split
 all_goals rfl
theorem z0n (t:xsc):zmm t=some (if tOk t then 0 else 6):=by
 have hb:(if t.Kind=1 then(1:Int)else if t.Kind=2 then 16 else if t.Kind=3 then 32 else if t.Kind=4 then 32 else 0)=0↔¬(1<=t.Kind/\t.Kind<=4):=by
  repeat' split
  all_goals omega
 unfold zmm;simp only[ydi,Option.bind_some]
 generalize (if t.Kind=1 then(1:Int)else if t.Kind=2 then 16 else if t.Kind=3 then 32 else if t.Kind=4 then 32 else 0)=b at hb|-
 by_cases h:tOk t
 ·unfold tOk at h
  rw[if_pos (show tOk t from h)]
  repeat' split
  all_goals first|rfl|(exfalso;omega)
 ·rw[if_neg h]
  unfold tOk at h
  repeat' split
  all_goals first|rfl|(exfalso;omega)
theorem z7g (t:xsc):zbx t=some (if tOk t then 0 else 6):=by
 have hb:(if t.Kind=1 then(1:Int)else if t.Kind=2 then 16 else if t.Kind=3 then 32 else if t.Kind=4 then 32 else 0)=0↔¬(1<=t.Kind/\t.Kind<=4):=by
  repeat' split
  all_goals omega
 unfold zbx;simp only[ygi,Option.bind_some]
 generalize (if t.Kind=1 then(1:Int)else if t.Kind=2 then 16 else if t.Kind=3 then 32 else if t.Kind=4 then 32 else 0)=b at hb|-
 by_cases h:tOk t
 ·unfold tOk at h
  rw[if_pos (show tOk t from h)]
  repeat' split
  all_goals first|rfl|(exfalso;omega)
 ·rw[if_neg h]
  unfold tOk at h
  repeat' split
  all_goals first|rfl|(exfalso;omega)
def zw0 (t:xsc):Nat:=if tOk t then max t.Len.toNat 1 else 0
theorem ybg (t:xsc):zql t=some (zw0 t:Int):=by
 unfold zql zw0;rw[z0n,Option.bind_some]
 by_cases h:tOk t
 ·have:=h.2.1
  simp only[h,if_true];congr 1;simp only[maxI];repeat' split
  all_goals omega
 ·simp[h]
theorem ygg (t:xsc):zg4 t=some (zw0 t:Int):=by
 unfold zg4 zw0;rw[z7g,Option.bind_some]
 by_cases h:tOk t
 ·have:=h.2.1
  simp only[h,if_true];congr 1;simp only[maxI];repeat' split
  all_goals omega
 ·simp[h]
theorem ycf (t:xsc):zw0 t<=32:=by
 unfold zw0;split
 ·rename_i h;have:=h.2.2.1;have:=h.2.1;omega
 ·omega
end Go.Lz

end
section
namespace Go.Lz
def zr7 (t:xsc) (n:Nat) (i:Int):Option Nat:=
 if tOk t/\n=zw0 t then(if t.Len=0 then some 0 else if t.Low<=i/\i<t.Low+t.Len then some (i-t.Low).toNat else none)else none
theorem z5z {t:xsc} {n:Nat} {i:Int} {k:Nat} (h:zr7 t n i=some k):k<n:=by
 unfold zr7 at h;split at h
 ·rename_i h0
  obtain⟨h1,h2⟩:=h0
  have h3:=h1.2.1
  have h4:zw0 t=max t.Len.toNat 1:=by simp[zw0,h1]
  split at h
  ·cases h;omega
  ·split at h
   ·cases h;omega
   ·cases h
 ·cases h
theorem z72 {t:xsc} {l:List Int} {i:Int}:∃k b,zoh t l i=some (k,b)/\(b=true->zr7 t l.length i=some k.toNat/\0<=k)/\(b=false->zr7 t l.length i=none):=by
 unfold zoh;rw[z0n,ybg];simp only[Option.bind_some]
 by_cases h:tOk t
 case neg=>exact⟨0,false,by simp[h],by simp,fun _=>by simp[zr7,h]⟩
 by_cases h2:l.length=zw0 t
 case neg=>exact⟨0,false,by simp only[h,if_true];rw[if_neg (by omega)],by simp,fun _=>by simp[zr7,h2]⟩
 have a1:=h.2.1;have a2:=h.2.2.1;have a3:=h.2.2.2.1;have U:=h.2.2.2.2.1
 by_cases h3:t.Len=0
 ·exact⟨0,true,by simp[h,h2,h3],fun _=>⟨by simp[zr7,h,h2,h3],by omega⟩,by simp⟩
 by_cases h4:t.Low<=i
 ·have e:w64 (t.Low+t.Len)=t.Low+t.Len:=zhv (by omega) (by omega)
  by_cases h5:i<t.Low+t.Len
  ·have I:w64 (i-t.Low)=i-t.Low:=zhv (by omega) (by omega)
   exact⟨i-t.Low,true,by simp[h,h2,h3,h4,e,I,h5],fun _=>⟨by simp[zr7,h,h2,h3,h4,h5],by omega⟩,by simp⟩
  ·exact⟨w64 (i-t.Low),false,by simp[h,h2,h3,h4,e,h5],by simp,fun _=>by simp[zr7,h,h2,h3,h5]⟩
 ·exact⟨w64 (i-t.Low),false,by simp[h,h2,h3,h4],by simp,fun _=>by simp[zr7,h,h2,h3,h4]⟩
def getN (t:xsc) (l:List Int) (i:Int):Int×Int:=match zr7 t l.length i with|some k=>(l.getD k 0,0)|none=>(0,2)
theorem z6s (t:xsc) (l:List Int) (i:Int):zqm t l i=some (getN t l i):=by
 unfold zqm getN;obtain⟨k,b,e,h1,h2⟩:= @z72 t l i;rw[e,Option.bind_some]
 cases b with
 |false=>rw[h2 rfl];simp
 |true=>
  obtain⟨h3,h4⟩:=h1 rfl
  have:=z5z h3
  rw[h3];simp[idx,h4,this,List.getD_eq_getElem?_getD]
def okV (k n:Int):Prop:=(k=1/\(n=0\/n=1))\/(k=2/\-32768<=n/\n<32768)\/((k=3\/k=4)/\-2147483648<=n/\n<2147483648)
def isK (k:Int):Prop:=k=1\/k=2\/k=3\/k=4
theorem z9h {k n:Int} (h:okV k n):zav k n=some true:=by
 rcases h with⟨rfl,h⟩|⟨rfl,h,h2⟩|⟨rfl|rfl,h,h2⟩
 ·rcases h with rfl|rfl<;>rfl
 ·simp[zav,zb8,za2,znw,h,h2]
 all_goals simp[zav,zb8,za2,znw,h,h2]
theorem z8d {k n:Int} (h:zav k n=some true):okV k n:=by
 unfold zav za2 zb8 at h
 by_cases U:k=1
 ·subst U
  by_cases h0:n=0
  ·exact .inl ⟨rfl,.inl h0⟩
  ·simp[h0]at h;exact .inl ⟨rfl,.inr h⟩
 by_cases k2:k=2
 ·subst k2
  simp[znw]at h
  by_cases h0:-32768<=n
  ·simp[h0]at h;exact .inr (.inl ⟨rfl,h0,h⟩)
  ·simp[h0]at h
 by_cases I:k=3\/k=4
 ·refine .inr (.inr ⟨I,?_⟩)
  by_cases h0:-2147483648<=n
  ·rcases I with rfl|rfl<;>simp[znw,h0]at h<;>exact⟨h0,h⟩
  ·rcases I with rfl|rfl<;>simp[znw,h0]at h
 ·have a3:¬k=3:=fun h=>I (.inl h)
  have a4:¬k=4:=fun h=>I (.inr h)
  simp[U,k2,a3,a4]at h
theorem z51 {k:Int} (h:isK k):okV k 0:=by unfold okV;unfold isK at h;omega
theorem zui {k:Int} (h:isK k) (n:Int):okV k (zpq k n):=by
 rcases h with rfl|rfl|rfl|rfl
 ·rw[yi8];split<;>simp[okV]
 ·rw[yea];unfold okV;omega
 ·rw[yd9];unfold okV;omega
 ·rw[yd8];unfold okV;omega
theorem zvf {op k r:Int} (h:zai op k=some r) (h0:r≠0):isK k/\(((op=5\/(7<=op/\op<=11)\/op=6\/(18<=op/\op<=20))/\r=k)\/((12<=op/\op<=17)/\r=1)):=by
 unfold zai at h;obtain⟨b,hb,U⟩:=z3o k;rw[hb,Option.bind_some]at h
 by_cases I:b=0
 ·rw[if_pos I]at h;cases h;exact absurd rfl h0
 rw[if_neg I]at h;refine⟨U I,?_⟩
 have two:∀{c:Prop} [Decidable c] {x:Int},(if c then some (0:Int)else some x)=some r->r=x:=fun{c} _ {x} h=>by
  by_cases hc:c
  ·rw[if_pos hc]at h;cases h;exact absurd rfl h0
  ·rw[if_neg hc]at h;cases h;rfl
 by_cases c1:op=5
 ·rw[if_pos c1]at h;exact .inl ⟨.inl c1,two h⟩
 rw[if_neg c1]at h
 by_cases c2:7<=op/\op<=11
 ·rw[if_pos c2.1,if_pos c2.2]at h;exact .inl ⟨.inr (.inl c2),two h⟩
 by_cases c3:op=6
 ·rw[if_neg (by omega),if_pos c3]at h;exact .inl ⟨.inr (.inr (.inl c3)),two h⟩
 by_cases c4:18<=op/\op<=20
 ·rw[if_pos (by omega),if_neg (by omega),if_neg c3,if_pos c4.1,if_pos c4.2]at h;exact .inl ⟨.inr (.inr (.inr c4)),two h⟩
 by_cases c5:12<=op/\op<=17
 ·refine .inr ⟨c5,?_⟩
  rw[if_pos (by omega),if_neg (by omega),if_neg c3,if_neg (by omega)]at h
  by_cases d1:op=12
  ·rw[if_pos d1]at h;cases h;rfl
  rw[if_neg d1]at h
  by_cases d2:op=13
  ·rw[if_pos d2]at h;cases h;rfl
  rw[if_neg d2,if_pos (by omega),if_pos c5.2]at h;exact two h
 ·exfalso
  by_cases d:7<=op
  ·rw[if_pos d,if_neg (by omega),if_neg c3,if_pos (by omega),if_neg (by omega),if_neg (by omega),if_neg (by omega),if_pos (by omega),if_neg (by omega)]at h;cases h;exact h0 rfl
  ·rw[if_neg d,if_neg c3,if_neg (by omega),if_neg (by omega),if_neg (by omega),if_neg (by omega)]at h;cases h;exact h0 rfl
theorem zqr {op k r:Int} (h:zai op k=some r) (h0:r≠0):isK k/\isK r:=by
 obtain⟨I,h|h⟩:=zvf h h0
 ·rw[h.2];exact⟨I,I⟩
 ·exact⟨I,.inl h.2⟩
theorem z0d {op k r:Int} (h:zai op k=some r) (h0:r≠0) (I:op=5\/op=6\/(7<=op/\op<=11)\/(18<=op/\op<=20)):r=k:=by
 have:=zvf h h0;omega
theorem z7d {op k r:Int} (h:zai op k=some r) (h0:r≠0) (I:12<=op/\op<=17):r=1:=by
 have:=zvf h h0;omega
theorem z7c {k r:Int} (h:zai 6 k=some r) (h0:r≠0):k≠4:=by
 rintro rfl;simp[zai,za2]at h;exact h0 h.symm
theorem zy0 {op k r:Int} (h:zai op k=some r):zi9 op k=some r:=by
 obtain⟨I,_,_,h1,h2⟩:=z5r op k;rw[h]at h2;cases h2;exact h1
theorem ye8 {n:Int} (h1:-2147483648<=n) (h2:n<2147483648):xnot .i64 n=-1-n:=by
 show IntKind.i64.wrap ((BitVec.ofInt 64 (-1)^^^BitVec.ofInt 64 n).toNat:Nat)=-1-n
 have h1:BitVec.ofInt 64 (-1)=BitVec.allOnes 64:=by decide
 rw[h1,BitVec.allOnes_xor,BitVec.toNat_not,BitVec.toNat_ofInt]
 show w64 _=_
 rw[znw];omega
theorem unOk {op k a r:Int} (ho:op=5\/op=6) (h:zai op k=some r) (h0:r≠0):∃v,zlf op k a=some v/\okV r v:=by
 have I:=(zqr h h0).1
 have e:r=k:=z0d h h0 (by omega)
 unfold zlf;rw[zy0 h,Option.bind_some,if_neg h0];simp only[zbb,Option.bind_some];subst e
 rcases ho with rfl|rfl
 ·exact⟨_,rfl,zui I _⟩
 ·rw[if_neg (by decide),if_pos rfl]
  have h4:=z7c h h0
  have hv:=zui I a
  by_cases U:r=1
  ·subst U
   rw[if_pos rfl];refine⟨_,rfl,?_⟩
   have:zpq 1 a=0\/zpq 1 a=1:=by unfold okV at hv;omega
   rcases this with h|h<;>rw[h]<;>simp[okV,znw]
  ·rw[if_neg U]
   refine⟨_,rfl,?_⟩;rw[ye8 (by unfold okV at hv;omega) (by unfold okV at hv;omega)];unfold okV at hv|-;omega
theorem ym6 (b:Bool):∃v,zlx b=some v/\okV 1 v:=by cases b<;>exact⟨_,rfl,by simp[okV]⟩
theorem yq0 (op a b:Int):∃v,zm4 op a b=some v/\okV 1 v:=by
 unfold zm4
 repeat' split
 all_goals (obtain⟨v,h,h1⟩:=ym6 _;rw[h];exact⟨v,rfl,h1⟩)
theorem ym7 {op k a b r:Int} (ho:7<=op/\op<=20) (h:zai op k=some r) (h0:r≠0):∃v c,zmi op k a b=some (v,c)/\okV r v/\(c=0\/c=1):=by
 have hk:=(zqr h h0).1
 unfold zmi;rw[if_neg (by omega),if_neg (by omega),zy0 h,Option.bind_some,if_neg h0];simp only[zbb,Option.bind_some]
 by_cases hc:12<=op/\op<=17
 ·have e:=z7d h h0 hc
  subst e;rw[if_neg (by omega),if_neg (by omega),if_neg (by omega),if_neg (by omega),if_neg (by omega),if_neg (by omega),if_neg (by omega),if_neg (by omega)];obtain⟨v,h1,h2⟩:=yq0 op (zpq k a) (zpq k b);rw[h1];exact⟨v,0,rfl,h2,.inl rfl⟩
 ·have e:r=k:=z0d h h0 (by omega)
  subst e
  have W:∀n,∃v c,some (zpq r n,(0:Int))=some (v,c)/\okV r v/\(c=0\/c=1):=fun n=>⟨_,_,rfl,zui hk n,.inl rfl⟩
  have Z:∃v c,some ((0:Int),(1:Int))=some (v,c)/\okV r v/\(c=0\/c=1):=⟨_,_,rfl,z51 hk,.inr rfl⟩
  by_cases o8:op=8
  ·subst o8
   rw[if_neg (by omega),if_pos rfl]
   by_cases z:zpq r b=0
   ·rw[if_pos z];exact Z
   ·rw[if_neg z,zf3 z,if_neg (by omega)];exact W _
  by_cases o9:op=9
  ·subst o9
   rw[if_neg (by omega),if_neg (by omega),if_pos rfl]
   by_cases z:zpq r b=0
   ·rw[if_pos z];exact Z
   ·rw[if_neg z,zf3 z,zf3 z];exact W _
  by_cases o7:op=7
  ·rw[if_pos o7];exact W _
  rw[if_neg o7,if_neg o8,if_neg o9]
  by_cases I:op=10
  ·rw[if_pos I];exact W _
  by_cases U:op=11
  ·rw[if_neg I,if_pos U];exact W _
  by_cases aa:op=18
  ·rw[if_neg I,if_neg U,if_pos aa];exact W _
  by_cases ab:op=19
  ·rw[if_neg I,if_neg U,if_neg aa,if_pos ab];exact W _
  have ad:op=20:=by omega
  rw[if_neg I,if_neg U,if_neg aa,if_neg ab,if_pos ad];exact W _
theorem z49 (b:Bool):∃v,zbp b=some v/\okV 1 v:=by cases b<;>exact⟨_,rfl,by simp[okV]⟩
theorem ykn {name:Str} (s:A4 Int) {i:Int} {l:List Int} (hl:zbk name=some l) (h0:0<=i) (h1:i<(l.length:Int)):∃v,zig name s i=some v/\okV (l.getD i.toNat 0) v:=by
 have k1:∀(s:A4 Int),∃v,(zbp (!(decide (s.a0=0))))=some v/\okV 1 v:=fun s=>z49 _
 unfold zbk at hl
 repeat' (first|(cases hl;done)|split at hl)
 all_goals cases hl
 all_goals (simp only[List.length_cons,List.length_nil,Int.natCast_add,Int.reduceAdd]at h1;subst_vars)
 all_goals (have hi:i=0\/i=1\/i=2:=by omega)
 all_goals (rcases hi with rfl|rfl|rfl)
 all_goals (first|(exfalso;revert h1;decide)|skip)
 all_goals (first
  |(obtain⟨v,e,hv⟩:=k1 s;refine⟨v,?_,hv⟩;simp[zig,e];done)
  |(refine⟨zpq 4 s.a1,?_,zui (.inr (.inr (.inr rfl))) _⟩;simp[zig,zcw,zbb,idx];done)
  |(refine⟨zpq 2 s.a1,?_,zui (.inr (.inl rfl)) _⟩;simp[zig,zcw,zbb,idx];done)
  |(obtain⟨v1,I,g1⟩:=z49 (decide (s.a3<=s.a0))
    obtain⟨v2,U,g2⟩:=z49 (decide (s.a0<=0))
    first|(refine⟨v1,?_,g1⟩;simp[zig,zcw,zbb,I,U];done)|(refine⟨v2,?_,g2⟩;simp[zig,zcw,zbb,I,U];done)|(refine⟨zpq 2 s.a0,?_,zui (.inr (.inl rfl)) _⟩;simp[zig,zcw,zbb,I,U];done)))
end Go.Lz

end
section
namespace Go.Lz
inductive Reach (l:xr4) (a:Nat):Nat->Prop
 |refl:Reach l a a
 |step {x y:Nat} {e:A2 Int} (h:Reach l a x) (he:e∈l.Below) (h0:e.a0=x) (h1:e.a1=y) (hy:y<l.Names.length):Reach l a y
def inN (l:xr4) (a:Int):Prop:=0<=a/\a<(l.Names.length:Int)
instance (l:xr4) (a:Int):Decidable (inN l a):=by unfold inN;exact inferInstance
open Classical in
noncomputable def leqN (l:xr4) (a b:Int):Bool:=decide (inN l a/\inN l b/\Reach l a.toNat b.toNat)
theorem Reach.lt {l:xr4} {a b:Nat} (ha:a<l.Names.length) (h:Reach l a b):b<l.Names.length:=by
 cases h with
 |refl=>exact ha
 |step _ _ _ _ hy=>exact hy
theorem Reach.trans {l:xr4} {a b c:Nat} (h1:Reach l a b) (h2:Reach l b c):Reach l a c:=by
 induction h2 with
 |refl=>exact h1
 |step _ he h0 h1 hy I=>exact .step I he h0 h1 hy
theorem z7e (l:xr4) (a:Int):za6 l a=some (decide (inN l a)):=by
 unfold za6 inN
 by_cases h:0<=a<;>simp[h]
theorem marks {l:xr4} {a:Nat} {out:List Bool} (hlen:out.length=l.Names.length) (ha:out[a]? =some true) (hr:∀k:Nat,out[k]? =some true->Reach l a k)
  (hc:∀(k:Nat) (e:A2 Int) (y:Nat),out[k]? =some true->e∈l.Below->e.a0=k->e.a1=y->y<l.Names.length->out[y]? =some true) (k:Nat):out[k]? =some true↔Reach l a k:=by
 refine⟨hr k,fun h=>?_⟩
 induction h with
 |refl=>exact ha
 |step _ he h0 h1 hy I=>exact hc _ _ _ I he h0 h1 hy
structure InvA (l:xr4) (a:Nat) (out:List Bool):Prop where
 len:out.length=l.Names.length
 ha:out[a]? =some true
 hr:∀k:Nat,out[k]? =some true->Reach l a k
structure InvB (l:xr4) (a:Nat) (out0 out:List Bool) (more:Bool) (i:Nat):Prop extends InvA l a out where
 il:i<=l.Below.length
 cnt:out.count false+(if more then 1 else 0)<=out0.count false
 same:more=false->∀(j:Nat) (e:A2 Int) (x y:Nat),j<i->l.Below[j]? =some e->e.a0=x->e.a1=y->y<l.Names.length->out[x]? =some true->out[y]? =some true
theorem pass {l:xr4} {a:Nat} (ha:a<l.Names.length) {out0:List Bool} (h0:InvA l a out0):
  ∃r:List Bool×Bool,loop (ze8 l) (out0,false,0)=some r/\InvB l a out0 r.1 r.2 l.Below.length:=by
 refine zln (fun s=>InvB l a out0 s.1 s.2.1 s.2.2) (fun(r:List Bool×Bool)=>InvB l a out0 r.1 r.2 l.Below.length) (fun s=>l.Below.length-s.2.2) ?_ (out0,false,0)
  ⟨h0,Nat.zero_le _,by simp,fun _ j e x y hj=>(Nat.not_lt_zero _ hj).elim⟩
 rintro⟨out,more,i⟩ h;dsimp only at h|-
 by_cases hi:i<l.Below.length
 ·left
  have aa:l.Below[i]? =some l.Below[i]:=List.getElem?_eq_getElem hi
  have skip:(∀x y:Nat,l.Below[i].a0=x->l.Below[i].a1=y->y<l.Names.length->out[x]? =some true->out[y]? =some true)->InvB l a out0 out more (i+1):=fun hs=>
   ⟨h.toInvA,hi,h.cnt,fun hm j e x y hj ab e0 e1 hy I=>by
     rcases Nat.lt_or_ge j i with aj|aj
     ·exact h.same hm j e x y aj ab e0 e1 hy I
     ·obtain rfl:j=i:=by omega
      rw[aa]at ab;obtain rfl:=Option.some.inj ab
      exact hs x y e0 e1 hy I⟩
  simp only[ze8,Int.ofNat_lt,hi,if_true,aa,Option.bind_some,z7e,decide_eq_true_eq]
  by_cases c1:inN l l.Below[i].a0
  ·simp only[c1,if_true]
   by_cases c2:inN l l.Below[i].a1
   ·simp only[c2,if_true]
    obtain⟨x,I⟩:∃x:Nat,l.Below[i].a0=x:=⟨l.Below[i].a0.toNat,by have:=c1.1;omega⟩;obtain⟨y,hy⟩:∃y:Nat,l.Below[i].a1=y:=⟨l.Below[i].a1.toNat,by have:=c2.1;omega⟩
    have ar:x<l.Names.length:=by have:=c1.2;omega
    have ak:y<l.Names.length:=by have:=c2.2;omega
    have au:x<out.length:=by rw[h.len];exact ar
    have al:y<out.length:=by rw[h.len];exact ak
    rw[hy,I,zpi,zpi]
    have ad:out[x]? =some out[x]:=List.getElem?_eq_getElem au
    have ae:out[y]? =some out[y]:=List.getElem?_eq_getElem al
    rw[ad,Option.bind_some]
    cases an:out[x]with
    |false=>
     simp only[Bool.false_eq_true,if_false];exact⟨_,rfl,skip (fun x' y' e0 _ _ ao=>by rw[I]at e0;obtain rfl:x=x':=(by omega);rw[ad,an]at ao;cases ao),by simp only;omega⟩
    |true=>
     simp only[if_true];rw[ae,Option.bind_some]
     cases hb:out[y]with
     |true=>
      simp only[if_true];exact⟨_,rfl,skip (fun x' y' _ e1 _ _=>by rw[hy]at e1;obtain rfl:y=y':=(by omega);rw[ae,hb]),by simp only;omega⟩
     |false=>
      have av:out[y]? =some false:=by rw[ae,hb]
      have aw:=zwo av
      have aq:(out.set y true)[y]? =some true:=List.getElem?_set_self al
      have af:∀k:Nat,out[k]? =some true->(out.set y true)[k]? =some true:=fun k U=>by
       by_cases e:y=k
       ·subst e;exact aq
       ·rw[List.getElem?_set_ne e];exact U
      have ai:∀k:Nat,(out.set y true)[k]? =some true->k=y\/out[k]? =some true:=fun k U=>by
       by_cases e:y=k
       ·exact .inl e.symm
       ·rw[List.getElem?_set_ne e]at U;exact .inr U
      have ax:=h.cnt
      simp only[Bool.false_eq_true,if_false,Int.toNat_natCast];refine⟨(out.set y true,true,i+1),rfl,?_,by simp only;omega⟩;dsimp only;refine⟨⟨by simpa using h.len,af _ h.ha,fun k U=>?_⟩,hi,by simp only[if_true];omega,fun hm=>by cases hm⟩
      rcases ai k U with rfl|U
      ·exact .step (h.hr x (by rw[ad,an])) (List.getElem_mem hi) I hy ak
      ·exact h.hr k U
   ·simp only[c2,if_false]
    exact⟨_,rfl,skip (fun x y _ e1 hy _=>(c2 ⟨by omega,by omega⟩).elim),by simp only;omega⟩
  ·simp only[c1,if_false]
   exact⟨_,rfl,skip (fun x y e0 _ _ I=>by
    have hl:=(h.hr x I).lt ha
    exact(c1 ⟨by omega,by omega⟩).elim),by simp only;omega⟩
 ·right
  have:i=l.Below.length:=by have:=h.il;omega
  subst this;exact⟨(out,more),by simp[ze8],h⟩
theorem yeh {l:xr4} {a:Nat} (ha:a<l.Names.length):
  ∃out:List Bool,loop (zdq l) ((List.replicate l.Names.length false).set a true,true)=some out/\out.length=l.Names.length/\∀k:Nat,out[k]? =some true↔Reach l a k:=by
 have ab:((List.replicate l.Names.length false).set a true)[a]? =some true:=List.getElem?_set_self (by simpa using ha)
 have aa:∀k:Nat,((List.replicate l.Names.length false).set a true)[k]? =some true->k=a:=fun k U=>by
  by_cases e:a=k
  ·exact e.symm
  ·rw[List.getElem?_set_ne e]at U;simp[List.getElem?_replicate]at U
 obtain⟨out,e,h1,h2⟩:=zln (f:=zdq l)
  (fun s=>InvA l a s.1/\(s.2=false->∀(k:Nat) (e:A2 Int) (y:Nat),s.1[k]? =some true->e∈l.Below->e.a0=k->e.a1=y->y<l.Names.length->s.1[y]? =some true))
  (fun(r:List Bool)=>InvA l a r/\∀(k:Nat) (e:A2 Int) (y:Nat),r[k]? =some true->e∈l.Below->e.a0=k->e.a1=y->y<l.Names.length->r[y]? =some true)
  (fun s=>2*s.1.count false+(if s.2 then 1 else 0)) (by
    rintro⟨out,more⟩ ⟨h1,h2⟩;dsimp only at h1 h2|-
    cases more with
    |false=>right;exact⟨out,by simp[zdq],h1,h2 rfl⟩
    |true=>
     left
     obtain⟨⟨ad,I⟩,e2,h3⟩:=pass ha h1;dsimp only at h3;refine⟨(ad,I),by simp only[zdq,if_true,e2,Option.bind_some],⟨h3.toInvA,fun hm k e y U he e0 e1 hy=>?_⟩,?_⟩
     ·obtain⟨j,hj⟩:=List.getElem?_of_mem he
      exact h3.same hm j e k y (List.getElem?_eq_some_iff.1 hj).1 hj e0 e1 hy U
     ·have:=h3.cnt
      cases I with
      |true=>simp only[if_true]at this|-;omega
      |false=>simp only[Bool.false_eq_true,if_false,if_true]at this|-;omega)
  ((List.replicate l.Names.length false).set a true,true) ⟨⟨by simp,ab,fun k U=>by rw[aa k U];exact .refl⟩,fun h=>by cases h⟩
 exact⟨out,e,h1.len,marks h1.len h1.ha h1.hr h2⟩
theorem zu3 {l:xr4} (hn:l.Names.length<=1000000) (a b:Int):zak l a b=some (leqN l a b):=by
 unfold zak leqN;simp only[z7e,Option.bind_some,decide_eq_true_eq]
 by_cases ha:inN l a
 ·by_cases hb:inN l b
  ·obtain⟨x,rfl⟩:∃x:Nat,a=x:=⟨a.toNat,by have:=ha.1;omega⟩
   obtain⟨y,rfl⟩:∃y:Nat,b=y:=⟨b.toNat,by have:=hb.1;omega⟩
   have I:x<l.Names.length:=by have:=ha.2;omega
   obtain⟨out,e,hlen,hr⟩:=yeh I
   have hy:y<out.length:=by have:=hb.2;omega
   simp only[ha,hb,if_true];rw[zf3 (by omega),zpi,List.getElem?_eq_getElem (by simpa using I),Option.bind_some,Int.toNat_natCast,e];simp only[Option.bind_some,zpi,List.getElem?_eq_getElem hy,Int.toNat_natCast]
   congr 1
   rw[Bool.eq_iff_iff];simp only[decide_eq_true_eq,ha,hb,true_and];rw[<-hr y,List.getElem?_eq_getElem hy];simp
  ·simp[ha,hb]
 ·simp[ha]
end Go.Lz

end
section
namespace Go.Lz
instance (l:xr4) (a:Int):Decidable (inN l a):=by unfold inN;exact inferInstance
theorem yg6 (l:xr4) (a:Int):zke l a=some (decide (inN l a)):=by
 unfold zke inN
 by_cases h:0<=a<;>simp[h]
structure Inv1 (l:xr4) (a:Nat) (out:List Bool) (todo:List Int):Prop where
 len:out.length=l.Names.length
 ha:out[a]? =some true
 hr:∀k:Nat,out[k]? =some true->Reach l a k
 td:∀t∈todo,0<=t/\out[t.toNat]? =some true
 cnt:out.count false+todo.length<=l.Names.length
structure Inv2 (l:xr4) (a:Nat) (x:Nat) (out0:List Bool) (todo0:List Int) (out:List Bool) (todo:List Int) (i:Nat):Prop extends Inv1 l a out todo where
 il:i<=l.Below.length
 mono:∀k:Nat,out0[k]? =some true->out[k]? =some true
 sub:∀t∈todo0,t∈todo
 new:∀k:Nat,out[k]? =some true->out0[k]? =some true\/(k:Int)∈todo
 done:∀(j:Nat) (e:A2 Int) (y:Nat),j<i->l.Below[j]? =some e->e.a0=x->e.a1=y->y<l.Names.length->out[y]? =some true
 sum:out.count false+todo.length<=out0.count false+todo0.length
theorem ynf {l:xr4} (hn:l.Names.length<=1000000) {a x:Nat} {out0:List Bool} {todo0:List Int} (hx:out0[x]? =some true) (h0:Inv1 l a out0 todo0):
  ∃r:List Bool×List Int,loop (zja l (x:Int)) (out0,todo0,0)=some r/\Inv2 l a x out0 todo0 r.1 r.2 l.Below.length:=by
 refine zln (fun s=>Inv2 l a x out0 todo0 s.1 s.2.1 s.2.2) (fun(r:List Bool×List Int)=>Inv2 l a x out0 todo0 r.1 r.2 l.Below.length) (fun s=>l.Below.length-s.2.2) ?_ (out0,todo0,0)
  ⟨h0,Nat.zero_le _,fun _ h=>h,fun _ h=>h,fun _ h=>.inl h,fun j e y hj=>(Nat.not_lt_zero _ hj).elim,Nat.le_refl _⟩
 rintro⟨out,todo,i⟩ h;dsimp only at h|-
 by_cases hi:i<l.Below.length
 ·left
  have ad:l.Below[i]? =some l.Below[i]:=List.getElem?_eq_getElem hi
  have skip:(∀y:Nat,l.Below[i].a0=x->l.Below[i].a1=y->y<l.Names.length->out[y]? =some true)->Inv2 l a x out0 todo0 out todo (i+1):=fun hs=>
   ⟨h.toInv1,hi,h.mono,h.sub,h.new,fun j e y hj aa e0 e1 hy=>by
     rcases Nat.lt_or_ge j i with ab|ab
     ·exact h.done j e y ab aa e0 e1 hy
     ·obtain rfl:j=i:=by omega
      rw[ad]at aa;obtain rfl:=Option.some.inj aa
      exact hs y e0 e1 hy,h.sum⟩
  simp only[zja,Int.ofNat_lt,hi,if_true,ad,Option.bind_some,yg6,decide_eq_true_eq]
  by_cases c1:l.Below[i].a0=(x:Int)
  ·simp only[c1,if_true]
   by_cases c2:inN l l.Below[i].a1
   ·simp only[c2,if_true]
    obtain⟨y,hy⟩:∃y:Nat,l.Below[i].a1=y:=⟨l.Below[i].a1.toNat,by have:=c2.1;omega⟩
    have ai:y<l.Names.length:=by have:=c2.2;omega
    have ak:y<out.length:=by rw[h.len];exact ai
    rw[hy,zpi]
    have aj:out[y]? =some out[y]:=List.getElem?_eq_getElem ak
    rw[aj,Option.bind_some]
    cases hb:out[y]with
    |true=>
     simp only[if_true];exact⟨_,rfl,skip (fun y' _ e1 _=>by rw[hy]at e1;obtain rfl:y=y':=(by omega);rw[aj,hb]),by simp only;omega⟩
    |false=>
     have al:out[y]? =some false:=by rw[aj,hb]
     have ao:=zwo al
     have ae:(out.set y true)[y]? =some true:=List.getElem?_set_self (by rw[h.len];exact ai)
     have U:∀k:Nat,out[k]? =some true->(out.set y true)[k]? =some true:=fun k I=>by
      by_cases e:y=k
      ·subst e;exact ae
      ·rw[List.getElem?_set_ne e];exact I
     have af:∀k:Nat,(out.set y true)[k]? =some true->k=y\/out[k]? =some true:=fun k I=>by
      by_cases e:y=k
      ·exact .inl e.symm
      ·rw[List.getElem?_set_ne e]at I;exact .inr I
     have aq:=h.cnt
     have ar:=h.sum
     simp only[Bool.false_eq_true,if_false,Int.toNat_natCast];rw[zf3 (by omega)];refine⟨(out.set y true,todo++[(y:Int)],i+1),rfl,?_,by simp only;omega⟩;dsimp only
     refine⟨⟨by simpa using h.len,U _ h.ha,fun k I=>?_,fun t ht=>?_,by simp only[List.length_append,List.length_singleton];omega⟩,hi,fun k I=>U k (h.mono k I),fun t ht=>List.mem_append_left _ (h.sub t ht),
      fun k I=>?_,fun j e y' hj aa e0 e1 an=>?_,by simp only[List.length_append,List.length_singleton];omega⟩
     ·rcases af k I with rfl|I
      ·exact .step (h.hr x (h.mono x hx)) (List.getElem_mem hi) c1 hy ai
      ·exact h.hr k I
     ·rcases List.mem_append.1 ht with ht|ht
      ·exact⟨(h.td t ht).1,U _ (h.td t ht).2⟩
      ·rw[List.mem_singleton]at ht
       subst ht;exact⟨by omega,by simpa using ae⟩
     ·rcases af k I with rfl|I
      ·exact .inr (by simp)
      ·rcases h.new k I with h'|h'
       ·exact .inl h'
       ·exact .inr (List.mem_append_left _ h')
     ·rcases Nat.lt_or_ge j i with ab|ab
      ·exact U _ (h.done j e y' ab aa e0 e1 an)
      ·obtain rfl:j=i:=by omega
       rw[ad]at aa;obtain rfl:=Option.some.inj aa;rw[hy]at e1
       obtain rfl:y=y':=by omega
       exact ae
   ·simp only[c2,if_false]
    exact⟨_,rfl,skip (fun y _ e1 hy=>(c2 ⟨by omega,by omega⟩).elim),by simp only;omega⟩
  ·simp only[c1,if_false]
   exact⟨_,rfl,skip (fun y e0 _ _=>(c1 e0).elim),by simp only;omega⟩
 ·right
  have:i=l.Below.length:=by have:=h.il;omega
  subst this;exact⟨(out,todo),by simp[zja],h⟩
theorem ybx {l:xr4} (hn:l.Names.length<=1000000) {a:Nat} (ha:a<l.Names.length):∃out:List Bool,zi8 l (a:Int)=some out/\out.length=l.Names.length/\∀k:Nat,out[k]? =some true↔Reach l a k:=by
 let I:List Bool×List Int->Prop:=fun s=>Inv1 l a s.1 s.2/\∀(k:Nat) (e:A2 Int) (y:Nat),s.1[k]? =some true->(k:Int)∈s.2\/(e∈l.Below->e.a0=k->e.a1=y->y<l.Names.length->s.1[y]? =some true)
 have hI:I ((List.replicate l.Names.length false).set a true,[(a:Int)]):=by
  have ab:((List.replicate l.Names.length false).set a true)[a]? =some true:=List.getElem?_set_self (by simpa using ha)
  have aa:∀k:Nat,((List.replicate l.Names.length false).set a true)[k]? =some true->k=a:=fun k U=>by
   by_cases e:a=k
   ·exact e.symm
   ·rw[List.getElem?_set_ne e]at U;simp[List.getElem?_replicate]at U
  have hc:=zwo (xs:=List.replicate l.Names.length false) (i:=a) (by simp[List.getElem?_replicate,ha])
  refine⟨⟨by simp,ab,fun k U=>by rw[aa k U];exact .refl,fun t ht=>?_,?_⟩,fun k e y U=>.inl ?_⟩
  ·simp only[List.mem_singleton]at ht;subst ht;exact⟨by omega,by simpa using ab⟩
  ·simp only[List.count_replicate_self]at hc;simp only[List.length_singleton];omega
  ·rw[aa k U];simp
 obtain⟨⟨out,todo⟩,e,hr⟩:=zln (f:=zjb l) I (fun r=>Inv1 l a r.1 r.2/\r.2=[]/\I r) (fun s=>s.1.count false+s.2.length) (by
  rintro⟨out,todo⟩ ⟨h1,h2⟩;dsimp only at h1 h2|-
  cases todo with
  |nil=>right;exact⟨(out,[]),by simp[zjb],h1,rfl,h1,h2⟩
  |cons t todo=>
   left
   obtain⟨x,rfl⟩:∃x:Nat,t=x:=⟨t.toNat,by have:=(h1.td t (by simp)).1;omega⟩
   have hx:out[x]? =some true:=by simpa using(h1.td x (by simp)).2
   have ai:=h1.cnt
   simp only[List.length_cons]at ai
   have h0:Inv1 l a out todo:=⟨h1.len,h1.ha,h1.hr,fun t ht=>h1.td t (by simp[ht]),by omega⟩
   obtain⟨⟨af,ae⟩,e2,h3⟩:=ynf hn hx h0;dsimp only at h3
   have aj:=h3.sum
   refine⟨(af,ae),?_,⟨h3.toInv1,fun k e y U=>?_⟩,by simp only[List.length_cons];omega⟩
   ·have hp:(1:Int)<=((List.length ((x:Int)::todo):Nat):Int):=by simp only[List.length_cons];omega
    have hq:0<((List.length ((x:Int)::todo):Nat):Int):=by simp only[List.length_cons];omega
    simp only[zjb,hq,if_true,List.getElem?_cons_zero,Option.bind_some,zf3 hp,List.drop_succ_cons,List.drop_zero,e2]
   ·rcases h3.new k U with ad|ad
    ·rcases h2 k e y ad with h4|h4
     ·rcases List.mem_cons.1 h4 with h5|h5
      ·have h5:k=x:=by omega
       subst h5
       exact .inr fun he e0 e1 hy=>by
        obtain⟨j,hj⟩:=List.getElem?_of_mem he;exact h3.done j e y (List.getElem?_eq_some_iff.1 hj).1 hj e0 e1 hy
      ·exact .inl (h3.sub _ h5)
     ·exact .inr fun he e0 e1 hy=>h3.mono y (h4 he e0 e1 hy)
    ·exact .inl ad) _ hI
 obtain⟨h1,rfl,_,h2⟩:=hr;refine⟨out,?_,h1.len,marks h1.len h1.ha h1.hr fun k e y U he e0 e1 hy=>(h2 k e y U).elim (fun h=>by simp at h) fun h=>h he e0 e1 hy⟩;unfold zi8;rw[zf3 (by omega),zpi,List.getElem?_eq_getElem (by simpa using ha),Option.bind_some,Int.toNat_natCast,e];rfl
theorem yep {l:xr4} (hn:l.Names.length<=1000000) (a b:Int):zmh l a b=some (leqN l a b):=by
 unfold zmh leqN;simp only[yg6,Option.bind_some,decide_eq_true_eq]
 by_cases ha:inN l a
 ·by_cases hb:inN l b
  ·obtain⟨x,rfl⟩:∃x:Nat,a=x:=⟨a.toNat,by have:=ha.1;omega⟩
   obtain⟨y,rfl⟩:∃y:Nat,b=y:=⟨b.toNat,by have:=hb.1;omega⟩;obtain⟨out,e,hlen,hr⟩:=ybx hn (a:=x) (by have:=ha.2;omega)
   have hy:y<out.length:=by have:=hb.2;omega
   simp only[ha,hb,if_true,e,Option.bind_some,zpi,List.getElem?_eq_getElem hy,Int.toNat_natCast]
   congr 1
   rw[Bool.eq_iff_iff];simp only[decide_eq_true_eq,ha,hb,true_and];rw[<-hr y,List.getElem?_eq_getElem hy];simp
  ·simp[ha,hb]
 ·simp[ha]
end Go.Lz

end
