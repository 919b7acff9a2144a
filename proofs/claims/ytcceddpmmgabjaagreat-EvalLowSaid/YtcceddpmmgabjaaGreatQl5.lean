/- The parts of a proof: V140 -/
import Derived.Test.YtcceddpmmgabjaaGreatQl4
set_option linter.unusedVariables false
set_option linter.unusedSimpArgs false
open Go.Proofs.Tryz
section
namespace Go.Lz
open Go.Proofs
attribute [-go_sem] zna g_b gd_b
set_option maxRecDepth 100000
set_option maxHeartbeats 4000000
noncomputable section
def zd2 (I:xsk->Int->Int->Option Int) (e:xsk) (deep:Int):(Int×Nat)->Option ((Int×Nat)⊕(Int))
 |(U,aa)=>if(aa:Int)<(e.Args.length:Int)then(if 0<=U then((e.Args[aa]?).bind fun ab=>(I ab (w64 (deep-1)) U).bind fun ad=>some (.inl (ad,(aa+1))))else(some (.inr (U))))else(some (.inr (U)))
def zf9 (I:xsk->Int->Int->Option Int) (e:xsk) (deep:Int) (left:Int):Option Int:=
 if deep<1 then(some (-1))else(if(w64 (left-(w64 ((w64 (1+(e.Args.length:Int)))+(w64 ((e.Name.length:Int).tdiv 100))))))<0 then(some (-1))else((loop (zd2 I e deep) ((w64 (left-(w64 ((w64 (1+(e.Args.length:Int)))+(w64 ((e.Name.length:Int).tdiv 100)))))),0)).bind (fun U=>some U)))
def zc8:Nat->(xsk->Int->Int->Option Int)
 |0=>fun _ _ _=>none
 |n+1=>zf9 (zc8 n)
def zvf (n:Nat) (e:xsk) (deep:Int) (left:Int):Option Int:=(zc8 n) e deep left
def zc9 (e:xsk) (deep:Int) (left:Int):Option Int:=zvf 1000000 e deep left
def zki (I:(List xsl)->Int->Int->Option Int) (l:List xsl) (deep:Int):(Int×Nat)->Option ((Int×Nat)⊕(Int))
 |(U,aa)=>if(aa:Int)<(l.length:Int)then(if 0<=U then((l[aa]?).bind fun ab=>(zc9 ab.Target 60 (w64 (U-(w64 ((ab.Name.length:Int).tdiv 100))))).bind fun ad=>if 0<=ad then((zc9 ab.Value 60 ad).bind fun ae=>if 0<=ae then((zc9 (⟨0,0,0,[],ab.Args⟩:xsk) 60 ae).bind fun af=>if 0<=af then((I ab.Body (w64 (deep-1)) af).bind fun ai=>if 0<=ai then((I ab.Else (w64 (deep-1)) ai).bind fun aj=>some (.inl (aj,(aa+1))))else(some (.inl (ai,(aa+1)))))else(some (.inl (af,(aa+1)))))else(some (.inl (ae,(aa+1)))))else(some (.inl (ad,(aa+1)))))else(some (.inr (U))))else(some (.inr (U)))
def zb5 (I:(List xsl)->Int->Int->Option Int) (l:List xsl) (deep:Int):(Int×Nat)->Option ((Int×Nat)⊕(Int))
 |(U,aa)=>if(aa:Int)<(l.length:Int)then(if 0<=U then((l[aa]?).bind fun ab=>(zc9 ab.Target 60 (w64 (U-(w64 ((ab.Name.length:Int).tdiv 100))))).bind fun ad=>if 0<=ad then((zc9 ab.Value 60 ad).bind fun ae=>if 0<=ae then((zc9 (⟨0,0,0,[],ab.Args⟩:xsk) 60 ae).bind fun af=>if 0<=af then((I ab.Body (w64 (deep-1)) af).bind fun ai=>if 0<=ai then((I ab.Else (w64 (deep-1)) ai).bind fun aj=>some (.inl (aj,(aa+1))))else(some (.inl (ai,(aa+1)))))else(some (.inl (af,(aa+1)))))else(some (.inl (ae,(aa+1)))))else(some (.inl (ad,(aa+1)))))else(some (.inr (U))))else(some (.inr (U)))
def zei (I:(List xsl)->Int->Int->Option Int) (l:List xsl) (deep:Int) (left:Int):Option Int:=
 if 0<(l.length:Int)then(if deep<1 then(some (-1))else(if(w64 (left-(l.length:Int)))<0 then(some (-1))else((loop (zb5 I l deep) ((w64 (left-(l.length:Int))),0)).bind (fun aa=>some aa))))else(if(w64 (left-(l.length:Int)))<0 then(some (-1))else((loop (zki I l deep) ((w64 (left-(l.length:Int))),0)).bind (fun U=>some U)))
def zbo:Nat->((List xsl)->Int->Int->Option Int)
 |0=>fun _ _ _=>none
 |n+1=>zei (zbo n)
def zve (n:Nat) (l:List xsl) (deep:Int) (left:Int):Option Int:=(zbo n) l deep left
def zl6 (l:List xsl) (deep:Int) (left:Int):Option Int:=zve 1000000 l deep left
def zcw (p:xsj):Nat->Option ((Nat)⊕(Int⊕Unit))
 |I=>if(I:Int)<(p.Tasks.length:Int)then((p.Tasks[I]?).bind fun U=>if 100<(U.Budget.length:Int)then(some (.inr (.inl (0))))else((zl6 U.Body 60 2000).bind fun aa=>if aa<0 then(some (.inr (.inl (0))))else(some (.inl (I+1)))))else(some (.inr (.inr (()))))
def zef (p:xsj):Option Int:=
 if 500<(w64 ((w64 ((w64 ((w64 ((p.Lattice.Names.length:Int)+(p.Lattice.Below.length:Int)))+(p.Sites.length:Int)))+(p.Vars.length:Int)))+(p.Blocks.length:Int)))then(some 0)else(if 10<(p.Tasks.length:Int)then(some 0)else((loop (zcw p) 0).bind (fun I=>match I with|(.inl U)=>some U|(.inr ())=>some 1)))
def zdw (c:Int):Option Bool:=
 if 97<=c then(if c<=122 then(some true)else(if 65<=c then(if c<=90 then(some true)else(some (decide (c=95))))else(some (decide (c=95)))))else(if 65<=c then(if c<=90 then(some true)else(some (decide (c=95))))else(some (decide (c=95))))
def zf4 (c:Int):Option Bool:=
 if 48<=c then(some (decide (c<=57)))else(some false)
def zkh (s:Str):Nat->Option ((Nat)⊕(Nat))
 |I=>if(I:Int)<(s.length:Int)then((s[I]?).bind fun U=>(zdw (U.toNat:Int)).bind fun aa=>if aa=true then(some (.inl (I+1)))else((zf4 (U.toNat:Int)).bind fun ab=>if ab=true then(some (.inl (I+1)))else(some (.inr (I)))))else(some (.inr (I)))
def zil (s:Str):Option Int:=
 if s=[]then(some 0)else((s[0]?).bind fun I=>(zdw (I.toNat:Int)).bind fun U=>if U=true then((loop (zkh s) 1).bind (fun aa=>some (aa:Int)))else(some 0))
def zjm (s:Str) (names:Str):(Int×Nat)->Option ((Int×Nat)⊕(Bool⊕Unit))
 |(U,I)=>if(I:Int)<=(names.length:Int)then(if(I:Int)=(names.length:Int)then(if U<(I:Int)then(need (0<=U/\U<=(I:Int)/\(I:Int)<=names.length) (if((names.take I).drop U.toNat)=s then(some (.inr (.inl (true))))else(some (.inl ((w64 ((I:Int)+1)),(I+1))))))else(some (.inl ((w64 ((I:Int)+1)),(I+1)))))else((names[I]?).bind fun aa=>if(aa.toNat:Int)=32 then(if U<(I:Int)then(need (0<=U/\U<=(I:Int)/\(I:Int)<=names.length) (if((names.take I).drop U.toNat)=s then(some (.inr (.inl (true))))else(some (.inl ((w64 ((I:Int)+1)),(I+1))))))else(some (.inl ((w64 ((I:Int)+1)),(I+1)))))else(some (.inl (U,(I+1))))))else(some (.inr (.inr (()))))
def zeh (s:Str) (names:Str):Option Bool:=
 (loop (zjm s names) (0,0)).bind (fun I=>match I with|(.inl U)=>some U|(.inr ())=>some false)
def zhg (s:Str):Option Bool:=
 (zeh s ([65,78,68,32,65,82,82,65,89,32,65,84,32,66,76,79,67,75,32,66,79,79,76,32,66,85,68,71,69,84,32,67,84,68,32,67,84,85,32,67,84,85,68,32,68,69,67,76,65,83,83,73,70,89,32,68,73,78,84,32,68,79,32,69,76,83,69,32,69,78,68,32,69,78,68,95,70,79,82,32,69,78,68,95,73,70,32,69,78,68,95,87,72,73,76,69,32,69,86,69,82,89,32,70,65,76,83,69,32,70,79,82,32,70,95,84,82,73,71,32,73,70,32,73,78,80,85,84,32,73,78,84,32,76,65,66,69,76,32,77,79,68,32,78,79,84,32,79,70,32,79,82,32,79,85,84,80,85,84,32,80,82,73,79,82,73,84,89,32,82,83,32,82,95,84,82,73,71,32,83,73,84,69,32,83,82,32,84,65,83,75,32,84,72,69,78,32,84,73,77,69,32,84,79,32,84,79,70,32,84,79,78,32,84,80,32,84,82,85,69,32,86,65,82,32,87,72,73,76,69,32,88,79,82]:Str)).bind fun I=>some I
def zjl:((List Int)×Nat)->Option (((List Int)×Nat)⊕(List Int))
 |(I,U)=>if(U:Int)<(I.length:Int)then((I[U]?).bind fun aa=>if 97<=aa then(if aa<=122 then(some (.inl ((I.set U (IntKind.u8.wrap (aa-32))),(U+1))))else(some (.inl (I,(U+1)))))else(some (.inl (I,(U+1)))))else(some (.inr (I)))
def zf3 (s:Str):Option Str:=
 (loop (zjl) ((zvk s),0)).bind (fun I=>some (yfd I))
def zav (s:Str):Option Bool:=
 if s=[]then(some false)else(if(s.length:Int)<=32 then((zil s).bind fun I=>if I=(s.length:Int)then((zf3 s).bind fun U=>(zhg U).bind fun aa=>some (!aa))else(some false))else(some false))
def zj1 (l:List Str) (name:Str):Nat->Option ((Nat)⊕(Int⊕Unit))
 |I=>if(I:Int)<(l.length:Int)then((l[I]?).bind fun U=>if U=name then(some (.inr (.inl ((I:Int)))))else(some (.inl (I+1))))else(some (.inr (.inr (()))))
def zha (l:List Str) (name:Str):Option Int:=
 (loop (zj1 l name) 0).bind (fun I=>match I with|(.inl U)=>some U|(.inr ())=>some (-1))
def za4 (l:xsn) (a:Int):Option Bool:=
 if 0<=a then(some (decide (a<(l.Names.length:Int))))else(some false)
def za5 (p:xsj) (n:Int):Option Bool:=
 (za4 p.Lattice n).bind fun I=>some I
def zbb (kind:Int):Option Int:=
 if kind=1 then(some 1)else(if kind=2 then(some 16)else(if kind=3 then(some 32)else(if kind=4 then(some 32)else(some 0))))
def zds (kind:Int):Option Int:=
 if kind=2 then(some 32768)else(some 2147483648)
def zbm (kind:Int) (n:Int):Option Bool:=
 if kind=1 then(if n=0 then(some true)else(some (decide (n=1))))else((zbb kind).bind fun I=>if 0<I then((zds kind).bind fun U=>if(w64 (0-U))<=n then((zds kind).bind fun aa=>some (decide (n<aa)))else(some false))else(some false))
def zbz (t:xsz):Option Int:=
 (zbb t.Kind).bind fun I=>if I=0 then(some 6)else(if t.Len<0 then(some 6)else(if 32<t.Len then(some 6)else(if t.Len=0 then(if t.Low=0 then(if t.Low<(-32768)then(some 6)else(if 32767<t.Low then(some 6)else(some 0)))else(some 6))else(if t.Low<(-32768)then(some 6)else(if 32767<t.Low then(some 6)else(some 0))))))
def zd7 (p:xsj) (v:xsq):Option Bool:=
 (zav v.Name).bind fun I=>if I=true then((zbz v.Type_).bind fun U=>if U=0 then(if v.Mode=0 then(if v.Safe=0 then(if v.Label=(-1)then(if v.Type_.Len=0 then(some true)else(some (decide (v.Type_.Low<=(w64 (32768-v.Type_.Len))))))else((za5 p v.Label).bind fun aa=>if aa=true then(if v.Type_.Len=0 then(some true)else(some (decide (v.Type_.Low<=(w64 (32768-v.Type_.Len))))))else(some false)))else(some false))else(if v.Mode=1 then(if v.Safe=0 then((za5 p v.Label).bind fun ab=>if ab=true then(some (decide (v.Type_.Len=0)))else(some false))else(some false))else(if v.Mode=2 then((za5 p v.Label).bind fun ad=>if ad=true then(if v.Type_.Len=0 then((zbm v.Type_.Kind v.Safe).bind fun ae=>some ae)else(some false))else(some false))else(some false))))else(some false))else(some false)
def zgp (p:xsj):Nat->Option ((Nat)⊕(Bool⊕Unit))
 |I=>if(I:Int)<(p.Blocks.length:Int)then((p.Blocks[I]?).bind fun U=>(zav U.Name).bind fun aa=>if aa=true then((zeh U.Kind ([67,84,68,32,67,84,85,32,67,84,85,68,32,70,95,84,82,73,71,32,82,83,32,82,95,84,82,73,71,32,83,82,32,84,79,70,32,84,79,78,32,84,80]:Str)).bind fun ab=>if ab=true then((za5 p U.Label).bind fun ad=>if ad=true then(some (.inl (I+1)))else(some (.inr (.inl (false)))))else(some (.inr (.inl (false)))))else(some (.inr (.inl (false)))))else(some (.inr (.inr (()))))
def zgq (p:xsj):Nat->Option ((Nat)⊕(Bool⊕Unit))
 |I=>if(I:Int)<(p.Vars.length:Int)then((p.Vars[I]?).bind fun U=>(zd7 p U).bind fun aa=>if aa=true then(some (.inl (I+1)))else(some (.inr (.inl (false)))))else(some (.inr (.inr (()))))
def zgr (p:xsj):Nat->Option ((Nat)⊕(Bool⊕Unit))
 |I=>if(I:Int)<(p.Sites.length:Int)then((p.Sites[I]?).bind fun U=>(zav U.Name).bind fun aa=>if aa=true then((za5 p U.From).bind fun ab=>if ab=true then((za5 p U.To).bind fun ad=>if ad=true then(some (.inl (I+1)))else(some (.inr (.inl (false)))))else(some (.inr (.inl (false)))))else(some (.inr (.inl (false)))))else(some (.inr (.inr (()))))
def zgs (p:xsj):Nat->Option ((Nat)⊕(Bool⊕Unit))
 |I=>if(I:Int)<(p.Lattice.Below.length:Int)then((p.Lattice.Below[I]?).bind fun U=>(za5 p U.a0).bind fun aa=>if aa=true then((za5 p U.a1).bind fun ab=>if ab=true then(some (.inl (I+1)))else(some (.inr (.inl (false)))))else(some (.inr (.inl (false)))))else(some (.inr (.inr (()))))
def zgt (p:xsj):Nat->Option ((Nat)⊕(Bool⊕Unit))
 |I=>if(I:Int)<(p.Lattice.Names.length:Int)then((p.Lattice.Names[I]?).bind fun U=>(zav U).bind fun aa=>if aa=true then((zha p.Lattice.Names U).bind fun ab=>if ab=(I:Int)then(some (.inl (I+1)))else(some (.inr (.inl (false)))))else(some (.inr (.inl (false)))))else(some (.inr (.inr (()))))
def zf0 (p:xsj):Option Bool:=
 if 8<(p.Lattice.Names.length:Int)then(some false)else(if 8<(p.Sites.length:Int)then(some false)else(if 48<(p.Vars.length:Int)then(some false)else(if 12<(p.Blocks.length:Int)then(some false)else(if 4<(p.Tasks.length:Int)then(some false)else(if 16384<(p.Lattice.Below.length:Int)then(some false)else((loop (zgt p) 0).bind (fun I=>match I with|(.inl ae)=>some ae|(.inr ())=>(loop (zgs p) 0).bind (fun I=>match I with|(.inl U)=>some U|(.inr ())=>(loop (zgr p) 0).bind (fun I=>match I with|(.inl aa)=>some aa|(.inr ())=>(loop (zgq p) 0).bind (fun I=>match I with|(.inl ab)=>some ab|(.inr ())=>(loop (zgp p) 0).bind (fun I=>match I with|(.inl ad)=>some ad|(.inr ())=>some true)))))))))))
def zct (e:xsk):Option Bool:=
 if e.Op=1 then(if 0<=e.N then(if e.Kind=1 then(if e.N<=1 then(if(e.Args.length:Int)=0 then(some (decide (e.Name=[])))else(some false))else(if e.Kind=2 then none else(if e.Kind=3 then none else(if e.Kind=4 then none else(some false)))))else(if e.Kind=2 then(if e.N<=32767 then(if(e.Args.length:Int)=0 then(some (decide (e.Name=[])))else(some false))else(if e.Kind=3 then none else(if e.Kind=4 then none else(some false))))else(if e.Kind=3 then(if e.N<=2147483647 then(if(e.Args.length:Int)=0 then(some (decide (e.Name=[])))else(some false))else(some false))else(if e.Kind=4 then(if e.N<=2147483647 then(if(e.Args.length:Int)=0 then(some (decide (e.Name=[])))else(some false))else(some false))else(some false)))))else(some false))else(if e.Kind=0 then(if e.Op=2 then(if(e.Args.length:Int)=0 then(if e.N=0 then((zav e.Name).bind fun I=>some I)else(some false))else(some false))else(if e.Op=4 then(if(e.Args.length:Int)=0 then(if 0<=e.N then(if e.N<=9 then((zav e.Name).bind fun U=>some U)else(some false))else(some false))else(some false))else(if e.Op=3 then(if(e.Args.length:Int)=1 then(if e.N=0 then((zav e.Name).bind fun aa=>some aa)else(some false))else(some false))else(if e.Op=21 then(if(e.Args.length:Int)=1 then(if e.N=0 then((zav e.Name).bind fun ab=>some ab)else(some false))else(some false))else(if e.Op=5 then(if(e.Args.length:Int)=1 then(if e.N=0 then(some (decide (e.Name=[])))else(some false))else(some false))else(if e.Op=6 then(if(e.Args.length:Int)=1 then(if e.N=0 then(some (decide (e.Name=[])))else(some false))else(some false))else(if 7<=e.Op then(if e.Op<=20 then(if(e.Args.length:Int)=2 then(if e.N=0 then(some (decide (e.Name=[])))else(some false))else(some false))else(some false))else(some false))))))))else(some false))
def zjk (I:xsk->Int->Int->Option Int) (e:xsk) (deep:Int):(Int×Nat)->Option ((Int×Nat)⊕(Int))
 |(U,aa)=>if(aa:Int)<(e.Args.length:Int)then(if 0<=U then((e.Args[aa]?).bind fun ab=>(I ab (w64 (deep-1)) U).bind fun ad=>some (.inl (ad,(aa+1))))else(some (.inr (U))))else(some (.inr (U)))
def zeu (I:xsk->Int->Int->Option Int) (e:xsk) (deep:Int) (left:Int):Option Int:=
 if deep<1 then(some (-1))else(if left<0 then(some (-1))else((zct e).bind fun U=>if U=true then((loop (zjk I e deep) ((w64 (left-1)),0)).bind (fun aa=>some aa))else(some (-1))))
def zde:Nat->(xsk->Int->Int->Option Int)
 |0=>fun _ _ _=>none
 |n+1=>zeu (zde n)
def ztf (n:Nat) (e:xsk) (deep:Int) (left:Int):Option Int:=(zde n) e deep left
def zkz (e:xsk) (deep:Int) (left:Int):Option Int:=ztf 1000000 e deep left
def ziu:(Int×Str)->Option ((Int×Str)⊕(Int×Str))
 |(I,U)=>if 10<=I then(need (0<=(I.tmod 10)/\(I.tmod 10)<=(w64 ((I.tmod 10)+1))/\(w64 ((I.tmod 10)+1))<=10) (need (((([48,49,50,51,52,53,54,55,56,57]:Str).take (w64 ((I.tmod 10)+1)).toNat).drop (I.tmod 10).toNat).length+U.length<=281474976710656) (some (.inl ((w64 (I.tdiv 10)),(((([48,49,50,51,52,53,54,55,56,57]:Str).take (w64 ((I.tmod 10)+1)).toNat).drop (I.tmod 10).toNat)++U))))))else(some (.inr ((I,U))))
def zaw (n:Int):Option Str:=
 (loop (ziu) (n,[])).bind (fun(I,U)=>need (0<=I/\I<=(w64 (I+1))/\(w64 (I+1))<=10) (need (((([48,49,50,51,52,53,54,55,56,57]:Str).take (w64 (I+1)).toNat).drop I.toNat).length+U.length<=281474976710656) (some (((([48,49,50,51,52,53,54,55,56,57]:Str).take (w64 (I+1)).toNat).drop I.toNat)++U))))
def zc6 (op:Int):Option Int:=
 if op=20 then(some 1)else(if op=19 then(some 2)else(if op=18 then(some 3)else(if 12<=op then(if op<=17 then(some 4)else(if op=10 then(some 5)else(if op=11 then(some 5)else(if 7<=op then(if op<=9 then(some 6)else(if op=5 then(some 7)else(if op=6 then(some 7)else(some 8))))else(if op=5 then(some 7)else(if op=6 then(some 7)else(some 8)))))))else(if op=10 then(some 5)else(if op=11 then(some 5)else(if 7<=op then(if op<=9 then(some 6)else(if op=5 then(some 7)else(if op=6 then(some 7)else(some 8))))else(if op=5 then(some 7)else(if op=6 then(some 7)else(some 8)))))))))
def zf2 (level:Int):Option (Str×Int):=
 if level=1 then(some (([79,82]:Str),20))else(if level=2 then(some (([88,79,82]:Str),19))else(if level=3 then(some (([65,78,68]:Str),18))else(if level=4 then(some (([61,32,60,62,32,60,32,60,61,32,62,32,62,61]:Str),12))else(if level=5 then(some (([43,32,45]:Str),10))else(some (([42,32,47,32,77,79,68]:Str),7))))))
def zj6 (op:Int) (aa:Str×Int):(Int×Int×Nat)->Option ((Int×Int×Nat)⊕(Str⊕Unit))
 |(ab,I,U)=>if(U:Int)<=(aa.1.length:Int)then(if(U:Int)=(aa.1.length:Int)then(if ab=op then(need (0<=I/\I<=(U:Int)/\(U:Int)<=aa.1.length) (some (.inr (.inl (((aa.1.take U).drop I.toNat))))))else(some (.inl ((w64 (ab+1)),(w64 ((U:Int)+1)),(U+1)))))else((aa.1[U]?).bind fun ad=>if(ad.toNat:Int)=32 then(if ab=op then(need (0<=I/\I<=(U:Int)/\(U:Int)<=aa.1.length) (some (.inr (.inl (((aa.1.take U).drop I.toNat))))))else(some (.inl ((w64 (ab+1)),(w64 ((U:Int)+1)),(U+1)))))else(some (.inl (ab,I,(U+1))))))else(some (.inr (.inr (()))))
def zhf (op:Int):Option Str:=
 (zc6 op).bind fun aa=>(zf2 aa).bind fun I=>(loop (zj6 op I) (I.2,0,0)).bind (fun ab=>match ab with|(.inl U)=>some U|(.inr ())=>some [])
def zfi (U:xsk->Option Str) (I:xsk->Int->Option Str) (e:xsk):Option Str:=
 if e.Op=1 then(if e.Kind=1 then(if e.N=1 then(some ([84,82,85,69]:Str))else(some ([70,65,76,83,69]:Str)))else(if e.Kind=3 then((zaw e.N).bind fun af=>need (af.length+5<=281474976710656) (need (af.length+6<=281474976710656) (some ((([68,73,78,84,40]:Str)++af)++([41]:Str)))))else(if e.Kind=4 then((zaw e.N).bind fun ai=>need (ai.length+5<=281474976710656) (need (ai.length+6<=281474976710656) (some ((([84,73,77,69,40]:Str)++ai)++([41]:Str)))))else((zaw e.N).bind fun ay=>some ay))))else(if e.Op=2 then(some e.Name)else(if e.Op=4 then(need (e.Name.length+1<=281474976710656) ((zaw e.N).bind fun ao=>need (e.Name.length+ao.length+1<=281474976710656) (some ((e.Name++([46]:Str))++ao))))else(if e.Op=3 then(need (e.Name.length+1<=281474976710656) ((e.Args[0]?).bind fun aq=>(U aq).bind fun ad=>need (e.Name.length+ad.length+1<=281474976710656) (need (e.Name.length+ad.length+2<=281474976710656) (some (((e.Name++([91]:Str))++ad)++([93]:Str))))))else(if e.Op=21 then(need (e.Name.length+11<=281474976710656) (need (e.Name.length+13<=281474976710656) ((e.Args[0]?).bind fun ar=>(U ar).bind fun ae=>need (e.Name.length+ae.length+13<=281474976710656) (need (e.Name.length+ae.length+14<=281474976710656) (some ((((([68,69,67,76,65,83,83,73,70,89,40]:Str)++e.Name)++([44,32]:Str))++ae)++([41]:Str)))))))else(if e.Op=5 then((e.Args[0]?).bind fun au=>(I au 7).bind fun aj=>need (aj.length+1<=281474976710656) (some (([45]:Str)++aj)))else(if e.Op=6 then((e.Args[0]?).bind fun av=>(I av 7).bind fun ak=>need (ak.length+4<=281474976710656) (some (([78,79,84,32]:Str)++ak)))else((zc6 e.Op).bind fun al=>(e.Args[0]?).bind fun aw=>(I aw al).bind fun aa=>need (aa.length+1<=281474976710656) ((zhf e.Op).bind fun ab=>need (aa.length+ab.length+1<=281474976710656) (need (aa.length+ab.length+2<=281474976710656) ((e.Args[1]?).bind fun ax=>(I ax (w64 (al+1))).bind fun an=>need (aa.length+ab.length+an.length+2<=281474976710656) (some ((((aa++([32]:Str))++ab)++([32]:Str))++an))))))))))))
def zfj (I:xsk->Option Str) (U:xsk->Int->Option Str) (e:xsk) (least:Int):Option Str:=
 (zc6 e.Op).bind fun ab=>if ab<least then((I e).bind fun aa=>need (aa.length+1<=281474976710656) (need (aa.length+2<=281474976710656) (some ((([40]:Str)++aa)++([41]:Str)))))else((I e).bind fun ad=>some ad)
def zay:Nat->(xsk->Option Str)×(xsk->Int->Option Str)
 |0=>(fun _=>none,fun _ _=>none)
 |n+1=>(zfi (zay n).1 (zay n).2,zfj (zay n).1 (zay n).2)
def zud (n:Nat) (e:xsk):Option Str:=(zay n).1 e
def zhe (e:xsk):Option Str:=zud 1000000 e
def zar (e:xsk):Option Bool:=
 (zkz e 24 16384).bind fun I=>if 0<=I then((zhe e).bind fun U=>some (decide ((U.length:Int)<=16384)))else(some false)
def zff (e:xsk):Option Bool:=
 if e.Op=2 then((zar e).bind fun I=>some I)else(if e.Op=3 then(if(e.Args.length:Int)=1 then(if e.N=0 then(if e.Kind=0 then((zav e.Name).bind fun U=>if U=true then((e.Args[0]?).bind fun aa=>(zar aa).bind fun ab=>some ab)else(some false))else(some false))else(some false))else(some false))else(some false))
def zev (I:xsk->xsk->Option Bool) (a:xsk) (b:xsk):Nat->Option ((Nat)⊕(Bool⊕Unit))
 |U=>if(U:Int)<(a.Args.length:Int)then((a.Args[U]?).bind fun aa=>(b.Args[U]?).bind fun ab=>(I aa ab).bind fun ad=>if ad=true then(some (.inl (U+1)))else(some (.inr (.inl (false)))))else(some (.inr (.inr (()))))
def zcu (I:xsk->xsk->Option Bool) (a:xsk) (b:xsk):Option Bool:=
 if a.Op=b.Op then(if a.N=b.N then(if a.Kind=b.Kind then(if a.Name=b.Name then(if(a.Args.length:Int)=(b.Args.length:Int)then((loop (zev I a b) 0).bind (fun U=>match U with|(.inl aa)=>some aa|(.inr ())=>some true))else(some false))else(some false))else(some false))else(some false))else(some false)
def zdv:Nat->(xsk->xsk->Option Bool)
 |0=>fun _ _=>none
 |n+1=>zcu (zdv n)
def zue (n:Nat) (a:xsk) (b:xsk):Option Bool:=(zdv n) a b
def zdr (a:xsk) (b:xsk):Option Bool:=zue 1000000 a b
def zau (e:xsk):Option Bool:=
 (zdr e (⟨0,0,0,[],[]⟩:xsk)).bind fun I=>some I
def zj5 (l:List xsk):Nat->Option ((Nat)⊕(Bool⊕Unit))
 |I=>if(I:Int)<(l.length:Int)then((l[I]?).bind fun U=>(zar U).bind fun aa=>if aa=true then(some (.inl (I+1)))else(some (.inr (.inl (false)))))else(some (.inr (.inr (()))))
def zcs (l:List xsk):Option Bool:=
 (loop (zj5 l) 0).bind (fun I=>match I with|(.inl U)=>some U|(.inr ())=>some true)
def zcr (s:xsl):Option Bool:=
 if(s.Body.length:Int)=0 then(if s.Kind=1 then(if(s.Else.length:Int)=0 then(if s.Name=[]then(if(s.Args.length:Int)=0 then((zff s.Target).bind fun aq=>if aq=true then((zar s.Value).bind fun ar=>some ar)else(some false))else(some false))else(some false))else(some false))else(if s.Kind=2 then(if s.Name=[]then(if(s.Args.length:Int)=0 then((zau s.Target).bind fun au=>if au=true then((zar s.Value).bind fun av=>some av)else(some false))else(some false))else(some false))else(if s.Kind=3 then(if s.Name=[]then(if(s.Args.length:Int)=0 then(if(s.Else.length:Int)=0 then((zau s.Target).bind fun aw=>if aw=true then((zar s.Value).bind fun ax=>some ax)else(some false))else(some false))else(some false))else(some false))else(if s.Kind=4 then((zav s.Name).bind fun ay=>if ay=true then(if(s.Args.length:Int)=2 then((zcs s.Args).bind fun az=>if az=true then(if(s.Else.length:Int)=0 then((zau s.Target).bind fun aA=>if aA=true then((zau s.Value).bind fun I=>some I)else(some false))else(some false))else(some false))else(some false))else(some false))else(if s.Kind=5 then(if(s.Else.length:Int)=0 then((zav s.Name).bind fun U=>if U=true then((zau s.Target).bind fun aa=>if aa=true then((zau s.Value).bind fun ab=>if ab=true then(if(s.Args.length:Int)<=16384 then((zcs s.Args).bind fun ad=>some ad)else(some false))else(some false))else(some false))else(some false))else(some false))else(some false))))))else(if s.Kind=1 then(some false)else(if s.Kind=2 then(if s.Name=[]then(if(s.Args.length:Int)=0 then((zau s.Target).bind fun ae=>if ae=true then((zar s.Value).bind fun af=>some af)else(some false))else(some false))else(some false))else(if s.Kind=3 then(if s.Name=[]then(if(s.Args.length:Int)=0 then(if(s.Else.length:Int)=0 then((zau s.Target).bind fun ai=>if ai=true then((zar s.Value).bind fun aj=>some aj)else(some false))else(some false))else(some false))else(some false))else(if s.Kind=4 then((zav s.Name).bind fun ak=>if ak=true then(if(s.Args.length:Int)=2 then((zcs s.Args).bind fun al=>if al=true then(if(s.Else.length:Int)=0 then((zau s.Target).bind fun an=>if an=true then((zau s.Value).bind fun ao=>some ao)else(some false))else(some false))else(some false))else(some false))else(some false))else(if s.Kind=5 then(some false)else(some false))))))
def za1 (e:xsk):Option Str:=
 (zar e).bind fun I=>if I=true then((zhe e).bind fun U=>some U)else(some [])
def zf1 (e:xsk):Option Str:=
 if e.Op=3 then((e.Args[0]?).bind fun U=>(za1 U).bind fun I=>need (I.length+1<=281474976710656) (need (I.length+2<=281474976710656) (some ((([91]:Str)++I)++([93]:Str)))))else(some [])
def zj3 (s:xsl):(Str×Nat)->Option ((Str×Nat)⊕(Str))
 |(I,U)=>if(U:Int)<(s.Args.length:Int)then(if 0<(U:Int)then(need (I.length+2<=281474976710656) ((s.Args[U]?).bind fun ad=>(za1 ad).bind fun aa=>need (I.length+aa.length+2<=281474976710656) (some (.inl (((I++([44,32]:Str))++aa),(U+1))))))else((s.Args[U]?).bind fun ae=>(za1 ae).bind fun ab=>need (I.length+ab.length<=281474976710656) (some (.inl ((I++ab),(U+1))))))else(some (.inr (I)))
def zcq (s:xsl):Option Str:=
 if s.Kind=1 then((za1 (⟨2,0,0,s.Target.Name,[]⟩:xsk)).bind fun U=>(zf1 s.Target).bind fun aa=>need (U.length+aa.length<=281474976710656) (need (U.length+aa.length+4<=281474976710656) ((za1 s.Value).bind fun ae=>need (U.length+aa.length+ae.length+4<=281474976710656) (need (U.length+aa.length+ae.length+5<=281474976710656) (some ((((U++aa)++([32,58,61,32]:Str))++ae)++([59]:Str)))))))else(if s.Kind=2 then((za1 s.Value).bind fun af=>need (af.length+3<=281474976710656) (need (af.length+9<=281474976710656) (some ((([73,70,32]:Str)++af)++([32,84,72,69,78,32]:Str)))))else(if s.Kind=3 then((za1 s.Value).bind fun ab=>need (ab.length+6<=281474976710656) (need (ab.length+10<=281474976710656) (some ((([87,72,73,76,69,32]:Str)++ab)++([32,68,79,32]:Str)))))else(if s.Kind=4 then(need (s.Name.length+4<=281474976710656) (need (s.Name.length+8<=281474976710656) ((s.Args[0]?).bind fun aj=>(za1 aj).bind fun I=>need (s.Name.length+I.length+8<=281474976710656) (need (s.Name.length+I.length+12<=281474976710656) ((s.Args[1]?).bind fun ak=>(za1 ak).bind fun ad=>need (s.Name.length+I.length+ad.length+12<=281474976710656) (need (s.Name.length+I.length+ad.length+16<=281474976710656) (some ((((((([70,79,82,32]:Str)++s.Name)++([32,58,61,32]:Str))++I)++([32,84,79,32]:Str))++ad)++([32,68,79,32]:Str)))))))))else(need (s.Name.length+1<=281474976710656) ((loop (zj3 s) ((s.Name++([40]:Str)),0)).bind (fun ai=>need (ai.length+2<=281474976710656) (some (ai++([41,59]:Str)))))))))
def zjh (I:(List xsl)->Int->Int->Option Int) (l:List xsl) (deep:Int):(Int×Nat)->Option ((Int×Nat)⊕(Int⊕Int))
 |(U,aa)=>if(aa:Int)<(l.length:Int)then(if 0<=U then((l[aa]?).bind fun ab=>(zcr ab).bind fun af=>if af=true then((zcq ab).bind fun ad=>if 0<=(w64 (U-(ad.length:Int)))then((I ab.Body (w64 (deep-1)) (w64 (U-(ad.length:Int)))).bind fun ae=>if 0<=ae then((I ab.Else (w64 (deep-1)) ae).bind fun ai=>some (.inl (ai,(aa+1))))else(some (.inl (ae,(aa+1)))))else(some (.inl ((w64 (U-(ad.length:Int))),(aa+1)))))else(some (.inr (.inl ((-1))))))else(some (.inr (.inr (U)))))else(some (.inr (.inr (U))))
def zji (I:(List xsl)->Int->Int->Option Int) (l:List xsl) (deep:Int):(Int×Nat)->Option ((Int×Nat)⊕(Int⊕Int))
 |(U,aa)=>if(aa:Int)<(l.length:Int)then(if 0<=U then((l[aa]?).bind fun ab=>(zcr ab).bind fun af=>if af=true then((zcq ab).bind fun ad=>if 0<=(w64 (U-(ad.length:Int)))then((I ab.Body (w64 (deep-1)) (w64 (U-(ad.length:Int)))).bind fun ae=>if 0<=ae then((I ab.Else (w64 (deep-1)) ae).bind fun ai=>some (.inl (ai,(aa+1))))else(some (.inl (ae,(aa+1)))))else(some (.inl ((w64 (U-(ad.length:Int))),(aa+1)))))else(some (.inr (.inl ((-1))))))else(some (.inr (.inr (U)))))else(some (.inr (.inr (U))))
def zdd (I:(List xsl)->Int->Int->Option Int) (l:List xsl) (deep:Int) (left:Int):Option Int:=
 if deep<0 then(some (-1))else(if 0<(l.length:Int)then(if deep<1 then(some (-1))else(if left<(l.length:Int)then(some (-1))else((loop (zji I l deep) (left,0)).bind (fun ab=>match ab with|(.inl ad)=>some ad|(.inr U)=>some U))))else(if left<(l.length:Int)then(some (-1))else((loop (zjh I l deep) (left,0)).bind (fun ab=>match ab with|(.inl ae)=>some ae|(.inr aa)=>some aa))))
def zcf:Nat->((List xsl)->Int->Int->Option Int)
 |0=>fun _ _ _=>none
 |n+1=>zdd (zcf n)
def zs9 (n:Nat) (l:List xsl) (deep:Int) (left:Int):Option Int:=(zcf n) l deep left
def zn0 (l:List xsl) (deep:Int) (left:Int):Option Int:=zs9 1000000 l deep left
def zhd (l:List xsl):Option Bool:=
 (zn0 l 24 16384).bind fun I=>some (decide (0<=I))
def zgm (U:xs2):Nat->Option ((Nat)⊕(Bool⊕Unit))
 |I=>if(I:Int)<(U.Budget.length:Int)then((U.Budget[I]?).bind fun aa=>if aa<0 then(some (.inr (.inl (false))))else(if 4096<aa then(some (.inr (.inl (false))))else(some (.inl (I+1)))))else(some (.inr (.inr (()))))
def zgn (p:xsj):Nat->Option ((Nat)⊕(Bool⊕Unit))
 |U=>if(U:Int)<(p.Tasks.length:Int)then((p.Tasks[U]?).bind fun I=>if I.Every<1 then(some (.inr (.inl (false))))else(if 65536<I.Every then(some (.inr (.inl (false))))else(if I.Priority<0 then(some (.inr (.inl (false))))else(if 255<I.Priority then(some (.inr (.inl (false))))else(if(I.Budget.length:Int)=(p.Lattice.Names.length:Int)then((zhd I.Body).bind fun ab=>if ab=true then((loop (zgm I) 0).bind (fun ad=>match ad with|(.inl aa)=>some (.inr (.inl (aa)))|(.inr ())=>some (.inl (U+1))))else(some (.inr (.inl (false)))))else(some (.inr (.inl (false)))))))))else(some (.inr (.inr (()))))
def zfz (p:xsj):Option Bool:=
 (loop (zgn p) 0).bind (fun U=>match U with|(.inl I)=>some I|(.inr ())=>some true)
def zb4 (n:Int):Option Str:=
 if n<0 then((zaw (w64 (0-n))).bind fun I=>need (I.length+1<=281474976710656) (some (([45]:Str)++I)))else((zaw n).bind fun U=>some U)
def zij (t:xsz):Option Str:=
 (idx [[],([66,79,79,76]:Str),([73,78,84]:Str),([68,73,78,84]:Str),([84,73,77,69]:Str)] t.Kind).bind fun aa=>if t.Len=0 then(some aa)else((zb4 t.Low).bind fun I=>need (I.length+6<=281474976710656) (need (I.length+8<=281474976710656) ((zb4 (w64 ((w64 (t.Low+t.Len))-1))).bind fun U=>need (I.length+U.length+8<=281474976710656) (need (I.length+U.length+13<=281474976710656) (need (I.length+U.length+aa.length+13<=281474976710656) (some (((((([65,82,82,65,89,91]:Str)++I)++([46,46]:Str))++U)++([93,32,79,70,32]:Str))++aa)))))))
def zik (p:xsj) (v:xsq):Option Str:=
 (idx [([86,65,82,32]:Str),([73,78,80,85,84,32]:Str),([79,85,84,80,85,84,32]:Str)] v.Mode).bind fun I=>need (I.length+v.Name.length<=281474976710656) (need (I.length+v.Name.length+2<=281474976710656) ((zij v.Type_).bind fun U=>need (I.length+v.Name.length+U.length+2<=281474976710656) (if 0<=v.Label then((idx p.Lattice.Names v.Label).bind fun aa=>need (aa.length+3<=281474976710656) (need (I.length+v.Name.length+U.length+aa.length+5<=281474976710656) (if v.Mode=2 then(if v.Type_.Kind=1 then(if v.Safe=1 then(need (I.length+v.Name.length+U.length+aa.length+13<=281474976710656) (need (I.length+v.Name.length+U.length+aa.length+15<=281474976710656) (some ((((((I++v.Name)++([58,32]:Str))++U)++(([32,64,32]:Str)++aa))++([32,58,61,32,84,82,85,69]:Str))++([59,10]:Str)))))else(need (I.length+v.Name.length+U.length+aa.length+14<=281474976710656) (need (I.length+v.Name.length+U.length+aa.length+16<=281474976710656) (some ((((((I++v.Name)++([58,32]:Str))++U)++(([32,64,32]:Str)++aa))++([32,58,61,32,70,65,76,83,69]:Str))++([59,10]:Str))))))else((zb4 v.Safe).bind fun ab=>need (ab.length+4<=281474976710656) (need (I.length+v.Name.length+U.length+aa.length+ab.length+9<=281474976710656) (need (I.length+v.Name.length+U.length+aa.length+ab.length+11<=281474976710656) (some ((((((I++v.Name)++([58,32]:Str))++U)++(([32,64,32]:Str)++aa))++(([32,58,61,32]:Str)++ab))++([59,10]:Str)))))))else(need (I.length+v.Name.length+U.length+aa.length+7<=281474976710656) (some (((((I++v.Name)++([58,32]:Str))++U)++(([32,64,32]:Str)++aa))++([59,10]:Str)))))))else(if v.Mode=2 then(if v.Type_.Kind=1 then(if v.Safe=1 then(need (I.length+v.Name.length+U.length+10<=281474976710656) (need (I.length+v.Name.length+U.length+12<=281474976710656) (some (((((I++v.Name)++([58,32]:Str))++U)++([32,58,61,32,84,82,85,69]:Str))++([59,10]:Str)))))else(need (I.length+v.Name.length+U.length+11<=281474976710656) (need (I.length+v.Name.length+U.length+13<=281474976710656) (some (((((I++v.Name)++([58,32]:Str))++U)++([32,58,61,32,70,65,76,83,69]:Str))++([59,10]:Str))))))else((zb4 v.Safe).bind fun ad=>need (ad.length+4<=281474976710656) (need (I.length+v.Name.length+U.length+ad.length+6<=281474976710656) (need (I.length+v.Name.length+U.length+ad.length+8<=281474976710656) (some (((((I++v.Name)++([58,32]:Str))++U)++(([32,58,61,32]:Str)++ad))++([59,10]:Str)))))))else(need (I.length+v.Name.length+U.length+4<=281474976710656) (some ((((I++v.Name)++([58,32]:Str))++U)++([59,10]:Str))))))))
def zj2 (I:(List xsl)->Option Str) (l:List xsl):(Str×Nat)->Option ((Str×Nat)⊕(Str))
 |(U,ae)=>if(ae:Int)<(l.length:Int)then(if 0<(ae:Int)then(need (U.length+1<=281474976710656) ((l[ae]?).bind fun aj=>(zcq aj).bind fun af=>need (U.length+af.length+1<=281474976710656) ((I aj.Body).bind fun ad=>if ad=[]then(if aj.Kind=2 then(need (U.length+af.length+ad.length+1<=281474976710656) (if 0<(aj.Else.length:Int)then((I aj.Else).bind fun ak=>need (ak.length+5<=281474976710656) (need (ak.length+6<=281474976710656) (need (U.length+af.length+ad.length+ak.length+7<=281474976710656) (need (U.length+af.length+ad.length+ak.length+14<=281474976710656) (some (.inl ((((((U++([32]:Str))++af)++ad)++((([69,76,83,69,32]:Str)++ak)++([32]:Str)))++([69,78,68,95,73,70,59]:Str)),(ae+1))))))))else(need (U.length+af.length+ad.length+8<=281474976710656) (some (.inl (((((U++([32]:Str))++af)++ad)++([69,78,68,95,73,70,59]:Str)),(ae+1)))))))else(if aj.Kind=3 then(need (ad.length+10<=281474976710656) (need (U.length+af.length+ad.length+11<=281474976710656) (some (.inl ((((U++([32]:Str))++af)++(ad++([69,78,68,95,87,72,73,76,69,59]:Str))),(ae+1))))))else(if aj.Kind=4 then(need (ad.length+8<=281474976710656) (need (U.length+af.length+ad.length+9<=281474976710656) (some (.inl ((((U++([32]:Str))++af)++(ad++([69,78,68,95,70,79,82,59]:Str))),(ae+1))))))else(some (.inl (((U++([32]:Str))++af),(ae+1)))))))else(need (ad.length+1<=281474976710656) (if aj.Kind=2 then(need (U.length+af.length+ad.length+2<=281474976710656) (if 0<(aj.Else.length:Int)then((I aj.Else).bind fun al=>need (al.length+5<=281474976710656) (need (al.length+6<=281474976710656) (need (U.length+af.length+ad.length+al.length+8<=281474976710656) (need (U.length+af.length+ad.length+al.length+15<=281474976710656) (some (.inl ((((((U++([32]:Str))++af)++(ad++([32]:Str)))++((([69,76,83,69,32]:Str)++al)++([32]:Str)))++([69,78,68,95,73,70,59]:Str)),(ae+1))))))))else(need (U.length+af.length+ad.length+9<=281474976710656) (some (.inl (((((U++([32]:Str))++af)++(ad++([32]:Str)))++([69,78,68,95,73,70,59]:Str)),(ae+1)))))))else(if aj.Kind=3 then(need (ad.length+11<=281474976710656) (need (U.length+af.length+ad.length+12<=281474976710656) (some (.inl ((((U++([32]:Str))++af)++((ad++([32]:Str))++([69,78,68,95,87,72,73,76,69,59]:Str))),(ae+1))))))else(if aj.Kind=4 then(need (ad.length+9<=281474976710656) (need (U.length+af.length+ad.length+10<=281474976710656) (some (.inl ((((U++([32]:Str))++af)++((ad++([32]:Str))++([69,78,68,95,70,79,82,59]:Str))),(ae+1))))))else(some (.inl (((U++([32]:Str))++af),(ae+1)))))))))))else((l[ae]?).bind fun ai=>(zcq ai).bind fun ab=>need (U.length+ab.length<=281474976710656) ((I ai.Body).bind fun aa=>if aa=[]then(if ai.Kind=2 then(need (U.length+ab.length+aa.length<=281474976710656) (if 0<(ai.Else.length:Int)then((I ai.Else).bind fun an=>need (an.length+5<=281474976710656) (need (an.length+6<=281474976710656) (need (U.length+ab.length+aa.length+an.length+6<=281474976710656) (need (U.length+ab.length+aa.length+an.length+13<=281474976710656) (some (.inl (((((U++ab)++aa)++((([69,76,83,69,32]:Str)++an)++([32]:Str)))++([69,78,68,95,73,70,59]:Str)),(ae+1))))))))else(need (U.length+ab.length+aa.length+7<=281474976710656) (some (.inl ((((U++ab)++aa)++([69,78,68,95,73,70,59]:Str)),(ae+1)))))))else(if ai.Kind=3 then(need (aa.length+10<=281474976710656) (need (U.length+ab.length+aa.length+10<=281474976710656) (some (.inl (((U++ab)++(aa++([69,78,68,95,87,72,73,76,69,59]:Str))),(ae+1))))))else(if ai.Kind=4 then(need (aa.length+8<=281474976710656) (need (U.length+ab.length+aa.length+8<=281474976710656) (some (.inl (((U++ab)++(aa++([69,78,68,95,70,79,82,59]:Str))),(ae+1))))))else(some (.inl ((U++ab),(ae+1)))))))else(need (aa.length+1<=281474976710656) (if ai.Kind=2 then(need (U.length+ab.length+aa.length+1<=281474976710656) (if 0<(ai.Else.length:Int)then((I ai.Else).bind fun ao=>need (ao.length+5<=281474976710656) (need (ao.length+6<=281474976710656) (need (U.length+ab.length+aa.length+ao.length+7<=281474976710656) (need (U.length+ab.length+aa.length+ao.length+14<=281474976710656) (some (.inl (((((U++ab)++(aa++([32]:Str)))++((([69,76,83,69,32]:Str)++ao)++([32]:Str)))++([69,78,68,95,73,70,59]:Str)),(ae+1))))))))else(need (U.length+ab.length+aa.length+8<=281474976710656) (some (.inl ((((U++ab)++(aa++([32]:Str)))++([69,78,68,95,73,70,59]:Str)),(ae+1)))))))else(if ai.Kind=3 then(need (aa.length+11<=281474976710656) (need (U.length+ab.length+aa.length+11<=281474976710656) (some (.inl (((U++ab)++((aa++([32]:Str))++([69,78,68,95,87,72,73,76,69,59]:Str))),(ae+1))))))else(if ai.Kind=4 then(need (aa.length+9<=281474976710656) (need (U.length+ab.length+aa.length+9<=281474976710656) (some (.inl (((U++ab)++((aa++([32]:Str))++([69,78,68,95,70,79,82,59]:Str))),(ae+1))))))else(some (.inl ((U++ab),(ae+1)))))))))))else(some (.inr (U)))
def zfe (I:(List xsl)->Option Str) (l:List xsl):Option Str:=
 (loop (zj2 I l) ([],0)).bind (fun U=>some U)
def zfd:Nat->((List xsl)->Option Str)
 |0=>fun _=>none
 |n+1=>zfe (zfd n)
def zub (n:Nat) (l:List xsl):Option Str:=(zfd n) l
def zom (l:List xsl):Option Str:=zub 1000000 l
def zhc (l:List xsl):Option Str:=
 (zom l).bind fun I=>some I
def zj0 (p:xsj) (t:xs2):(Str×Nat)->Option ((Str×Nat)⊕(Str))
 |(U,I)=>if(I:Int)<(t.Budget.length:Int)then(if(I:Int)=0 then(need (U.length+8<=281474976710656) ((p.Lattice.Names[I]?).bind fun aa=>need (aa.length+1<=281474976710656) ((t.Budget[I]?).bind fun af=>(zaw af).bind fun ad=>need (aa.length+ad.length+1<=281474976710656) (need (U.length+aa.length+ad.length+9<=281474976710656) (some (.inl (((U++([32,66,85,68,71,69,84,32]:Str))++((aa++([32]:Str))++ad)),(I+1))))))))else(need (U.length+2<=281474976710656) ((p.Lattice.Names[I]?).bind fun ab=>need (ab.length+1<=281474976710656) ((t.Budget[I]?).bind fun ai=>(zaw ai).bind fun ae=>need (ab.length+ae.length+1<=281474976710656) (need (U.length+ab.length+ae.length+3<=281474976710656) (some (.inl (((U++([44,32]:Str))++((ab++([32]:Str))++ae)),(I+1)))))))))else(some (.inr (U)))
def zg9 (p:xsj) (t:xs2):Option Str:=
 (zaw t.Every).bind fun aa=>need (aa.length+11<=281474976710656) (need (aa.length+21<=281474976710656) ((zaw t.Priority).bind fun ab=>need (aa.length+ab.length+21<=281474976710656) ((loop (zj0 p t) ((((([84,65,83,75,32,69,86,69,82,89,32]:Str)++aa)++([32,80,82,73,79,82,73,84,89,32]:Str))++ab),0)).bind (fun U=>need (U.length+4<=281474976710656) ((zhc t.Body).bind fun I=>if I=[]then(need (U.length+9<=281474976710656) (some ((U++([32,68,79,32]:Str))++([69,78,68,59,10]:Str))))else(need (I.length+1<=281474976710656) (need (U.length+I.length+5<=281474976710656) (need (U.length+I.length+10<=281474976710656) (some (((U++([32,68,79,32]:Str))++(I++([32]:Str)))++([69,78,68,59,10]:Str)))))))))))
def zhp (p:xsj):(Str×Nat)->Option ((Str×Nat)⊕(Str))
 |(I,U)=>if(U:Int)<(p.Tasks.length:Int)then((p.Tasks[U]?).bind fun ab=>(zg9 p ab).bind fun aa=>need (I.length+aa.length<=281474976710656) (some (.inl ((I++aa),(U+1)))))else(some (.inr (I)))
def zhq (p:xsj):(Str×Nat)->Option ((Str×Nat)⊕(Str))
 |(aa,ab)=>if(ab:Int)<(p.Blocks.length:Int)then((p.Blocks[ab]?).bind fun I=>need (I.Name.length+6<=281474976710656) (need (I.Name.length+8<=281474976710656) (need (I.Name.length+I.Kind.length+8<=281474976710656) (need (I.Name.length+I.Kind.length+11<=281474976710656) ((idx p.Lattice.Names I.Label).bind fun U=>need (I.Name.length+I.Kind.length+U.length+11<=281474976710656) (need (I.Name.length+I.Kind.length+U.length+13<=281474976710656) (need (aa.length+I.Name.length+I.Kind.length+U.length+13<=281474976710656) (some (.inl ((aa++((((((([66,76,79,67,75,32]:Str)++I.Name)++([58,32]:Str))++I.Kind)++([32,64,32]:Str))++U)++([59,10]:Str))),(ab+1)))))))))))else(some (.inr (aa)))
def zhr (p:xsj):(Str×Nat)->Option ((Str×Nat)⊕(Str))
 |(I,U)=>if(U:Int)<(p.Vars.length:Int)then((p.Vars[U]?).bind fun ab=>(zik p ab).bind fun aa=>need (I.length+aa.length<=281474976710656) (some (.inl ((I++aa),(U+1)))))else(some (.inr (I)))
def zhs (p:xsj):(Str×Nat)->Option ((Str×Nat)⊕(Str))
 |(ab,ad)=>if(ad:Int)<(p.Sites.length:Int)then((p.Sites[ad]?).bind fun I=>need (I.Name.length+5<=281474976710656) (need (I.Name.length+7<=281474976710656) ((idx p.Lattice.Names I.From).bind fun U=>need (I.Name.length+U.length+7<=281474976710656) (need (I.Name.length+U.length+11<=281474976710656) ((idx p.Lattice.Names I.To).bind fun aa=>need (I.Name.length+U.length+aa.length+11<=281474976710656) (need (I.Name.length+U.length+aa.length+13<=281474976710656) (need (ab.length+I.Name.length+U.length+aa.length+13<=281474976710656) (some (.inl ((ab++((((((([83,73,84,69,32]:Str)++I.Name)++([58,32]:Str))++U)++([32,45,62,32]:Str))++aa)++([59,10]:Str))),(ad+1)))))))))))else(some (.inr (ab)))
def zht (p:xsj):(Str×Nat)->Option ((Str×Nat)⊕(Str))
 |(aa,ab)=>if(ab:Int)<(p.Lattice.Below.length:Int)then((p.Lattice.Below[ab]?).bind fun ad=>(idx p.Lattice.Names ad.a0).bind fun I=>need (I.length+6<=281474976710656) (need (I.length+9<=281474976710656) ((idx p.Lattice.Names ad.a1).bind fun U=>need (I.length+U.length+9<=281474976710656) (need (I.length+U.length+11<=281474976710656) (need (aa.length+I.length+U.length+11<=281474976710656) (some (.inl ((aa++((((([76,65,66,69,76,32]:Str)++I)++([32,60,32]:Str))++U)++([59,10]:Str))),(ab+1)))))))))else(some (.inr (aa)))
def zhu (p:xsj):(Str×Nat)->Option ((Str×Nat)⊕(Str))
 |(U,aa)=>if(aa:Int)<(p.Lattice.Names.length:Int)then((p.Lattice.Names[aa]?).bind fun I=>need (I.length+6<=281474976710656) (need (I.length+8<=281474976710656) (need (U.length+I.length+8<=281474976710656) (some (.inl ((U++((([76,65,66,69,76,32]:Str)++I)++([59,10]:Str))),(aa+1)))))))else(some (.inr (U)))
def zg8 (p:xsj):Option Str:=
 (loop (zhu p) ([],0)).bind (fun ae=>(loop (zht p) (ae,0)).bind (fun I=>(loop (zhs p) (I,0)).bind (fun U=>(loop (zhr p) (U,0)).bind (fun aa=>(loop (zhq p) (aa,0)).bind (fun ab=>(loop (zhp p) (ab,0)).bind (fun ad=>some ad))))))
def zbl (p:xsj):Option Bool:=
 (zf0 p).bind fun I=>if I=true then((zfz p).bind fun U=>if U=true then((zg8 p).bind fun aa=>some (decide ((aa.length:Int)<=16384)))else(some false))else(some false)
def zi3 (I:(List xsl)->Option Int) (l:List xsl):(Int×Nat)->Option ((Int×Nat)⊕(Int))
 |(ab,aa)=>if(aa:Int)<(l.length:Int)then((l[aa]?).bind fun U=>if U.Kind=4 then((I U.Body).bind fun ad=>(I U.Else).bind fun ae=>some (.inl ((w64 ((w64 (ab+1))+(w64 (ad+ae)))),(aa+1))))else((I U.Body).bind fun af=>(I U.Else).bind fun ai=>some (.inl ((w64 (ab+(w64 (af+ai)))),(aa+1)))))else(some (.inr (ab)))
def zen (I:(List xsl)->Option Int) (l:List xsl):Option Int:=
 (loop (zi3 I l) (0,0)).bind (fun U=>some U)
def zem:Nat->((List xsl)->Option Int)
 |0=>fun _=>none
 |n+1=>zen (zem n)
def zsu (n:Nat) (l:List xsl):Option Int:=(zem n) l
def znx (l:List xsl):Option Int:=zsu 1000000 l
def zkf (l:List Int):(Int×Nat)->Option ((Int×Nat)⊕(Int))
 |(U,I)=>if(I:Int)<(l.length:Int)then((l[I]?).bind fun aa=>some (.inl ((w64 (U+aa)),(I+1))))else(some (.inr (U)))
def zie (l:List Int):Option Int:=
 (loop (zkf l) (0,0)).bind (fun I=>some I)
def zjt (p:xsj):(Int×Nat)->Option ((Int×Nat)⊕(Bool⊕Int))
 |(U,I)=>if(I:Int)<(p.Tasks.length:Int)then((p.Tasks[I]?).bind fun aa=>(znx aa.Body).bind fun ab=>(zie aa.Budget).bind fun ad=>if 4096<ad then(some (.inr (.inl (false))))else(some (.inl ((w64 (U+ab)),(I+1)))))else(some (.inr (.inr (U))))
def zg3 (p:xsj):Option Bool:=
 (zbl p).bind fun U=>if U=true then(if 64<(p.Lattice.Below.length:Int)then(some false)else((loop (zjt p) (0,0)).bind (fun aa=>match aa with|(.inl ab)=>some ab|(.inr I)=>some (decide (I<=48)))))else(some false)
def zfk (l:xsn):((List Bool)×Bool×Nat)->Option (((List Bool)×Bool×Nat)⊕((List Bool)×Bool))
 |(I,U,aa)=>if(aa:Int)<(l.Below.length:Int)then((l.Below[aa]?).bind fun ab=>(za4 l ab.a0).bind fun ad=>if ad=true then((za4 l ab.a1).bind fun ae=>if ae=true then((idx I ab.a0).bind fun af=>if af=true then((idx I ab.a1).bind fun ai=>if ai=true then(some (.inl (I,U,(aa+1))))else(some (.inl ((I.set ab.a1.toNat true),true,(aa+1)))))else(some (.inl (I,U,(aa+1)))))else(some (.inl (I,U,(aa+1)))))else(some (.inl (I,U,(aa+1)))))else(some (.inr ((I,U))))
def zdx (l:xsn):((List Bool)×Bool)->Option (((List Bool)×Bool)⊕(List Bool))
 |(I,ab)=>if ab=true then((loop (zfk l) (I,false,0)).bind (fun(U,aa)=>some (.inl (U,aa))))else(some (.inr (I)))
def zak (l:xsn) (a:Int) (b:Int):Option Bool:=
 (za4 l a).bind fun U=>if U=true then((za4 l b).bind fun aa=>if aa=true then(need (0<=(l.Names.length:Int)/\1*(l.Names.length:Int)<=140737488355328) ((idx (List.replicate l.Names.length false) a).bind fun ad=>(loop (zdx l) (((List.replicate l.Names.length false).set a.toNat true),true)).bind (fun ab=>(idx ab b).bind fun I=>some I)))else(some false))else(some false)
def zdh (l:xsn) (a:Int) (b:Int) (ae:Nat):(Bool×Nat)->Option ((Bool×Nat)⊕(Bool))
 |(U,I)=>if(I:Int)<(l.Names.length:Int)then(if U=true then((zak l a (I:Int)).bind fun aa=>if aa=true then((zak l b (I:Int)).bind fun ab=>if ab=true then((zak l (ae:Int) (I:Int)).bind fun ad=>some (.inl (ad,(I+1))))else(some (.inl (true,(I+1)))))else(some (.inl (true,(I+1)))))else(some (.inr (U))))else(some (.inr (U)))
def zdi (l:xsn) (a:Int) (b:Int) (ae:Nat):(Bool×Nat)->Option ((Bool×Nat)⊕(Bool))
 |(U,I)=>if(I:Int)<(l.Names.length:Int)then(if U=true then((zak l a (I:Int)).bind fun aa=>if aa=true then((zak l b (I:Int)).bind fun ab=>if ab=true then((zak l (ae:Int) (I:Int)).bind fun ad=>some (.inl (ad,(I+1))))else(some (.inl (true,(I+1)))))else(some (.inl (true,(I+1)))))else(some (.inr (U))))else(some (.inr (U)))
def zex (l:xsn) (a:Int) (b:Int):Nat->Option ((Nat)⊕(Int⊕Unit))
 |I=>if(I:Int)<(l.Names.length:Int)then((zak l a (I:Int)).bind fun aa=>if aa=true then((zak l b (I:Int)).bind fun ab=>(loop (zdi l a b I) (ab,0)).bind (fun ad=>if ad=true then(some (.inr (.inl ((I:Int)))))else(some (.inl (I+1)))))else((loop (zdh l a b I) (false,0)).bind (fun U=>if U=true then(some (.inr (.inl ((I:Int)))))else(some (.inl (I+1))))))else(some (.inr (.inr (()))))
def zcv (l:xsn) (a:Int) (b:Int):Option Int:=
 (loop (zex l a b) 0).bind (fun U=>match U with|(.inl I)=>some I|(.inr ())=>some (-1))
def zdf (l:xsn) (a:Int) (b:Int) (ae:Nat):(Bool×Nat)->Option ((Bool×Nat)⊕(Bool))
 |(U,I)=>if(I:Int)<(l.Names.length:Int)then(if U=true then((zak l (I:Int) a).bind fun aa=>if aa=true then((zak l (I:Int) b).bind fun ab=>if ab=true then((zak l (I:Int) (ae:Int)).bind fun ad=>some (.inl (ad,(I+1))))else(some (.inl (true,(I+1)))))else(some (.inl (true,(I+1)))))else(some (.inr (U))))else(some (.inr (U)))
def zdg (l:xsn) (a:Int) (b:Int) (ae:Nat):(Bool×Nat)->Option ((Bool×Nat)⊕(Bool))
 |(U,I)=>if(I:Int)<(l.Names.length:Int)then(if U=true then((zak l (I:Int) a).bind fun aa=>if aa=true then((zak l (I:Int) b).bind fun ab=>if ab=true then((zak l (I:Int) (ae:Int)).bind fun ad=>some (.inl (ad,(I+1))))else(some (.inl (true,(I+1)))))else(some (.inl (true,(I+1)))))else(some (.inr (U))))else(some (.inr (U)))
def zew (l:xsn) (a:Int) (b:Int):Nat->Option ((Nat)⊕(Int⊕Unit))
 |I=>if(I:Int)<(l.Names.length:Int)then((zak l (I:Int) a).bind fun aa=>if aa=true then((zak l (I:Int) b).bind fun ab=>(loop (zdg l a b I) (ab,0)).bind (fun ad=>if ad=true then(some (.inr (.inl ((I:Int)))))else(some (.inl (I+1)))))else((loop (zdf l a b I) (false,0)).bind (fun U=>if U=true then(some (.inr (.inl ((I:Int)))))else(some (.inl (I+1))))))else(some (.inr (.inr (()))))
def ze2 (l:xsn) (a:Int) (b:Int):Option Int:=
 (loop (zew l a b) 0).bind (fun U=>match U with|(.inl I)=>some I|(.inr ())=>some (-1))
def zc1 (l:xsn) (U:Nat) (aa:Str):Nat->Option ((Nat)⊕(Int⊕Unit))
 |I=>if(I:Int)<(U:Int)then((l.Names[I]?).bind fun ab=>if aa=ab then(some (.inr (.inl (4))))else((zak l (U:Int) (I:Int)).bind fun ad=>if ad=true then((zak l (I:Int) (U:Int)).bind fun ae=>if ae=true then(some (.inr (.inl (4))))else((zcv l (U:Int) (I:Int)).bind fun af=>if af<0 then(some (.inr (.inl (4))))else((ze2 l (U:Int) (I:Int)).bind fun ai=>if ai<0 then(some (.inr (.inl (4))))else(some (.inl (I+1))))))else((zcv l (U:Int) (I:Int)).bind fun aj=>if aj<0 then(some (.inr (.inl (4))))else((ze2 l (U:Int) (I:Int)).bind fun ak=>if ak<0 then(some (.inr (.inl (4))))else(some (.inl (I+1)))))))else(some (.inr (.inr (()))))
def zec (l:xsn):Nat->Option ((Nat)⊕(Int⊕Unit))
 |I=>if(I:Int)<(l.Names.length:Int)then((l.Names[I]?).bind fun U=>if U=[]then(some (.inr (.inl (4))))else((loop (zc1 l I U) 0).bind (fun ab=>match ab with|(.inl aa)=>some (.inr (.inl (aa)))|(.inr ())=>some (.inl (I+1)))))else(some (.inr (.inr (()))))
def zed (l:xsn):Nat->Option ((Nat)⊕(Int⊕Unit))
 |I=>if(I:Int)<(l.Below.length:Int)then((l.Below[I]?).bind fun U=>(za4 l U.a0).bind fun aa=>if aa=true then((za4 l U.a1).bind fun ab=>if ab=true then(some (.inl (I+1)))else(some (.inr (.inl (4)))))else(some (.inr (.inl (4)))))else(some (.inr (.inr (()))))
def zf7 (l:xsn):Option Int:=
 if(l.Names.length:Int)<1 then(some 3)else(if 8<(l.Names.length:Int)then(some 3)else((loop (zed l) 0).bind (fun I=>match I with|(.inl aa)=>some aa|(.inr ())=>(loop (zec l) 0).bind (fun I=>match I with|(.inl U)=>some U|(.inr ())=>some 0))))
def zii (p:xsj) (name:Str):Nat->Option ((Nat)⊕(Int⊕Unit))
 |I=>if(I:Int)<(p.Vars.length:Int)then((p.Vars[I]?).bind fun U=>if U.Name=name then(some (.inr (.inl ((I:Int)))))else(some (.inl (I+1))))else(some (.inr (.inr (()))))
def za3 (p:xsj) (name:Str):Option Int:=
 (loop (zii p name) 0).bind (fun I=>match I with|(.inl U)=>some U|(.inr ())=>some (-1))
def zgl (p:xsj) (name:Str):Nat->Option ((Nat)⊕(Int⊕Unit))
 |I=>if(I:Int)<(p.Blocks.length:Int)then((p.Blocks[I]?).bind fun U=>if U.Name=name then(some (.inr (.inl ((I:Int)))))else(some (.inl (I+1))))else(some (.inr (.inr (()))))
def zby (p:xsj) (name:Str):Option Int:=
 (loop (zgl p name) 0).bind (fun I=>match I with|(.inl U)=>some U|(.inr ())=>some (-1))
def zho (p:xsj) (name:Str):Nat->Option ((Nat)⊕(Int⊕Unit))
 |I=>if(I:Int)<(p.Sites.length:Int)then((p.Sites[I]?).bind fun U=>if U.Name=name then(some (.inr (.inl ((I:Int)))))else(some (.inl (I+1))))else(some (.inr (.inr (()))))
def zdq (p:xsj) (name:Str):Option Int:=
 (loop (zho p name) 0).bind (fun I=>match I with|(.inl U)=>some U|(.inr ())=>some (-1))
def zfc (U:xsj->xsk->Option Bool) (I:xsj->(List xsk)->Option Bool) (p:xsj) (e:xsk):Option Bool:=
 if e.Op=2 then((za3 p e.Name).bind fun aa=>if aa<0 then(some false)else((I p e.Args).bind fun ab=>some ab))else(if e.Op=3 then((za3 p e.Name).bind fun ad=>if ad<0 then(some false)else((I p e.Args).bind fun ae=>some ae))else(if e.Op=4 then((zby p e.Name).bind fun af=>if af<0 then(some false)else((I p e.Args).bind fun ai=>some ai))else(if e.Op=21 then((zdq p e.Name).bind fun aj=>if aj<0 then(some false)else((I p e.Args).bind fun ak=>some ak))else((I p e.Args).bind fun al=>some al))))
def zgf (I:xsj->xsk->Option Bool) (p:xsj) (l:List xsk):Nat->Option ((Nat)⊕(Bool⊕Unit))
 |U=>if(U:Int)<(l.length:Int)then((l[U]?).bind fun aa=>(I p aa).bind fun ab=>if ab=true then(some (.inl (U+1)))else(some (.inr (.inl (false)))))else(some (.inr (.inr (()))))
def zer (I:xsj->xsk->Option Bool) (U:xsj->(List xsk)->Option Bool) (p:xsj) (l:List xsk):Option Bool:=
 (loop (zgf I p l) 0).bind (fun aa=>match aa with|(.inl ab)=>some ab|(.inr ())=>some true)
def zat:Nat->(xsj->xsk->Option Bool)×(xsj->(List xsk)->Option Bool)
 |0=>(fun _ _=>none,fun _ _=>none)
 |n+1=>(zfc (zat n).1 (zat n).2,zer (zat n).1 (zat n).2)
def zt8 (n:Nat) (p:xsj) (e:xsk):Option Bool:=(zat n).1 p e
def zcp (p:xsj) (e:xsk):Option Bool:=zt8 1000000 p e
def zs2 (n:Nat) (p:xsj) (l:List xsk):Option Bool:=(zat n).2 p l
def zfx (p:xsj) (l:List xsk):Option Bool:=zs2 1000000 p l
def zgg (I:xsj->(List xsl)->Option Bool) (p:xsj) (l:List xsl):Nat->Option ((Nat)⊕(Bool⊕Unit))
 |aa=>if(aa:Int)<(l.length:Int)then((l[aa]?).bind fun U=>if U.Kind=4 then((za3 p U.Name).bind fun au=>if au<0 then(some (.inr (.inl (false))))else(if U.Kind=5 then none else((zcp p U.Target).bind fun av=>if av=true then((zcp p U.Value).bind fun aw=>if aw=true then((zfx p U.Args).bind fun ax=>if ax=true then((I p U.Body).bind fun ay=>if ay=true then((I p U.Else).bind fun ab=>if ab=true then(some (.inl (aa+1)))else(some (.inr (.inl (false)))))else(some (.inr (.inl (false)))))else(some (.inr (.inl (false)))))else(some (.inr (.inl (false)))))else(some (.inr (.inl (false)))))))else(if U.Kind=5 then((zby p U.Name).bind fun ad=>if ad<0 then(some (.inr (.inl (false))))else((zcp p U.Target).bind fun ae=>if ae=true then((zcp p U.Value).bind fun af=>if af=true then((zfx p U.Args).bind fun ai=>if ai=true then((I p U.Body).bind fun aj=>if aj=true then((I p U.Else).bind fun ak=>if ak=true then(some (.inl (aa+1)))else(some (.inr (.inl (false)))))else(some (.inr (.inl (false)))))else(some (.inr (.inl (false)))))else(some (.inr (.inl (false)))))else(some (.inr (.inl (false))))))else((zcp p U.Target).bind fun al=>if al=true then((zcp p U.Value).bind fun an=>if an=true then((zfx p U.Args).bind fun ao=>if ao=true then((I p U.Body).bind fun aq=>if aq=true then((I p U.Else).bind fun ar=>if ar=true then(some (.inl (aa+1)))else(some (.inr (.inl (false)))))else(some (.inr (.inl (false)))))else(some (.inr (.inl (false)))))else(some (.inr (.inl (false)))))else(some (.inr (.inl (false)))))))else(some (.inr (.inr (()))))
def zet (I:xsj->(List xsl)->Option Bool) (p:xsj) (l:List xsl):Option Bool:=
 (loop (zgg I p l) 0).bind (fun aa=>match aa with|(.inl U)=>some U|(.inr ())=>some true)
def zes:Nat->(xsj->(List xsl)->Option Bool)
 |0=>fun _ _=>none
 |n+1=>zet (zes n)
def zs3 (n:Nat) (p:xsj) (l:List xsl):Option Bool:=(zes n) p l
def zky (p:xsj) (l:List xsl):Option Bool:=zs3 1000000 p l
def zgh (p:xsj):Nat->Option ((Nat)⊕(Int⊕Unit))
 |I=>if(I:Int)<(p.Tasks.length:Int)then((p.Tasks[I]?).bind fun U=>(zky p U.Body).bind fun aa=>if aa=true then(some (.inl (I+1)))else(some (.inr (.inl (5)))))else(some (.inr (.inr (()))))
def zjf (U:List Str) (aa:Nat):Nat->Option ((Nat)⊕(Int⊕Unit))
 |I=>if(I:Int)<(aa:Int)then((U[aa]?).bind fun ab=>(U[I]?).bind fun ad=>if ab=ad then(some (.inr (.inl (5))))else(some (.inl (I+1))))else(some (.inr (.inr (()))))
def zjg (U:List Str):Nat->Option ((Nat)⊕(Int⊕Unit))
 |I=>if(I:Int)<(U.length:Int)then((loop (zjf U I) 0).bind (fun ab=>match ab with|(.inl aa)=>some (.inr (.inl (aa)))|(.inr ())=>some (.inl (I+1))))else(some (.inr (.inr (()))))
def zgi (p:xsj):((List Str)×Nat)->Option (((List Str)×Nat)⊕(List Str))
 |(I,U)=>if(U:Int)<(p.Sites.length:Int)then((p.Sites[U]?).bind fun aa=>need ((I.length+1)*16<=140737488355328) (some (.inl ((I++[aa.Name]),(U+1)))))else(some (.inr (I)))
def zgj (p:xsj):((List Str)×Nat)->Option (((List Str)×Nat)⊕(List Str))
 |(I,U)=>if(U:Int)<(p.Blocks.length:Int)then((p.Blocks[U]?).bind fun aa=>need ((I.length+1)*16<=140737488355328) (some (.inl ((I++[aa.Name]),(U+1)))))else(some (.inr (I)))
def zgk (p:xsj):((List Str)×Nat)->Option (((List Str)×Nat)⊕(List Str))
 |(I,U)=>if(U:Int)<(p.Vars.length:Int)then((p.Vars[U]?).bind fun aa=>need ((I.length+1)*16<=140737488355328) (some (.inl ((I++[aa.Name]),(U+1)))))else(some (.inr (I)))
def zfy (p:xsj):Option Int:=
 (loop (zgk p) ([],0)).bind (fun ae=>(loop (zgj p) (ae,0)).bind (fun U=>(loop (zgi p) (U,0)).bind (fun aa=>(loop (zjg aa) 0).bind (fun I=>match I with|(.inl ab)=>some ab|(.inr ())=>(loop (zgh p) 0).bind (fun I=>match I with|(.inl ad)=>some ad|(.inr ())=>some 0)))))
def zdu (kind:Str):Option (List Int):=
 if kind=([84,79,78]:Str)then(some [1,4])else(if kind=([84,79,70]:Str)then(some [1,4])else(if kind=([84,80]:Str)then(some [1,4])else(if kind=([67,84,85]:Str)then(some [1,1,2])else(if kind=([67,84,68]:Str)then(some [1,1,2])else(if kind=([67,84,85,68]:Str)then(some [1,1,1,1,2])else(if kind=([82,95,84,82,73,71]:Str)then(some [1])else(if kind=([70,95,84,82,73,71]:Str)then(some [1])else(if kind=([83,82]:Str)then(some [1,1])else(if kind=([82,83]:Str)then(some [1,1])else(some []))))))))))
def zbj (kind:Str):Option (List Int):=
 if kind=([84,79,78]:Str)then(some [1,4])else(if kind=([84,79,70]:Str)then(some [1,4])else(if kind=([84,80]:Str)then(some [1,4])else(if kind=([67,84,85]:Str)then(some [1,2])else(if kind=([67,84,68]:Str)then(some [1,2])else(if kind=([67,84,85,68]:Str)then(some [1,1,2])else(if kind=([82,95,84,82,73,71]:Str)then(some [1])else(if kind=([70,95,84,82,73,71]:Str)then(some [1])else(if kind=([83,82]:Str)then(some [1])else(if kind=([82,83]:Str)then(some [1])else(some []))))))))))
def zah (op:Int) (kind:Int):Option Int:=
 (zbb kind).bind fun I=>if I=0 then(some 0)else(if op=5 then(if kind=1 then(some 0)else(some kind))else(if 7<=op then(if op<=11 then(if kind=1 then(some 0)else(some kind))else(if op=6 then(if kind=4 then(some 0)else(some kind))else(if 18<=op then(if op<=20 then(if kind=4 then(some 0)else(some kind))else(if op=12 then(some 1)else(if op=13 then(some 1)else(if 14<=op then(if op<=17 then(if kind=1 then(some 0)else(some 1))else(some 0))else(some 0)))))else(if op=12 then(some 1)else(if op=13 then(some 1)else(if 14<=op then(if op<=17 then(if kind=1 then(some 0)else(some 1))else(some 0))else(some 0)))))))else(if op=6 then(if kind=4 then(some 0)else(some kind))else(if 18<=op then(if op<=20 then(if kind=4 then(some 0)else(some kind))else(if op=12 then(some 1)else(if op=13 then(some 1)else(if 14<=op then(if op<=17 then(if kind=1 then(some 0)else(some 1))else(some 0))else(some 0)))))else(if op=12 then(some 1)else(if op=13 then(some 1)else(if 14<=op then(if op<=17 then(if kind=1 then(some 0)else(some 1))else(some 0))else(some 0))))))))
def zas (I:xsj->xsk->Option Int) (p:xsj) (e:xsk):Option Int:=
 if e.Op=1 then(some e.Kind)else(if e.Op=2 then((za3 p e.Name).bind fun aa=>if aa<0 then(some 0)else((idx p.Vars aa).bind fun ab=>if((decide (0<ab.Type_.Len))==(decide (e.Op=3)))=true then(if e.Op=3 then none else(some ab.Type_.Kind))else(some 0)))else(if e.Op=3 then((za3 p e.Name).bind fun ad=>if ad<0 then(some 0)else((idx p.Vars ad).bind fun ae=>if 0<ae.Type_.Len then((e.Args[0]?).bind fun aw=>(I p aw).bind fun ax=>if ax=2 then(some ae.Type_.Kind)else(some 0))else(some 0)))else(if e.Op=4 then((zby p e.Name).bind fun af=>if af<0 then(some 0)else((idx p.Blocks af).bind fun ay=>(zbj ay.Kind).bind fun ai=>if e.N<0 then(some 0)else(if(ai.length:Int)<=e.N then(some 0)else((idx ai e.N).bind fun aj=>some aj))))else(if e.Op=21 then((zdq p e.Name).bind fun ak=>if ak<0 then(some 0)else((e.Args[0]?).bind fun al=>(I p al).bind fun an=>some an))else((e.Args[0]?).bind fun ao=>(I p ao).bind fun U=>if 1<(e.Args.length:Int)then((e.Args[1]?).bind fun aq=>(I p aq).bind fun ar=>if ar=U then((zah e.Op U).bind fun au=>some au)else(some 0))else((zah e.Op U).bind fun av=>some av))))))
def zao:Nat->(xsj->xsk->Option Int)
 |0=>fun _ _=>none
 |n+1=>zas (zao n)
def zt7 (n:Nat) (p:xsj) (e:xsk):Option Int:=(zao n) p e
def zam (p:xsj) (e:xsk):Option Int:=zt7 1000000 p e
def zhm (I:(List xsl)->Str->Option Bool) (l:List xsl) (name:Str):Nat->Option ((Nat)⊕(Bool⊕Unit))
 |aa=>if(aa:Int)<(l.length:Int)then((l[aa]?).bind fun U=>if U.Kind=1 then(if U.Target.Name=name then(some (.inr (.inl (true))))else(if U.Kind=4 then none else((I U.Body name).bind fun ad=>if ad=true then(some (.inr (.inl (true))))else((I U.Else name).bind fun ae=>if ae=true then(some (.inr (.inl (true))))else(some (.inl (aa+1)))))))else(if U.Kind=4 then(if U.Name=name then(some (.inr (.inl (true))))else((I U.Body name).bind fun af=>if af=true then(some (.inr (.inl (true))))else((I U.Else name).bind fun ai=>if ai=true then(some (.inr (.inl (true))))else(some (.inl (aa+1))))))else((I U.Body name).bind fun aj=>if aj=true then(some (.inr (.inl (true))))else((I U.Else name).bind fun ab=>if ab=true then(some (.inr (.inl (true))))else(some (.inl (aa+1)))))))else(some (.inr (.inr (()))))
def zfb (I:(List xsl)->Str->Option Bool) (l:List xsl) (name:Str):Option Bool:=
 (loop (zhm I l name) 0).bind (fun aa=>match aa with|(.inl U)=>some U|(.inr ())=>some false)
def zfa:Nat->((List xsl)->Str->Option Bool)
 |0=>fun _ _=>none
 |n+1=>zfb (zfa n)
def zt5 (n:Nat) (l:List xsl) (name:Str):Option Bool:=(zfa n) l name
def zg5 (l:List xsl) (name:Str):Option Bool:=zt5 1000000 l name
def zg6 (p:xsj) (s:xsl):Option Bool:=
 (za3 p s.Name).bind fun U=>if U<0 then(some false)else((idx p.Vars U).bind fun I=>if I.Mode=0 then(if I.Type_.Len=0 then(if I.Type_.Kind=2 then((s.Args[0]?).bind fun ae=>(zam p ae).bind fun af=>if af=I.Type_.Kind then((s.Args[1]?).bind fun ai=>(zam p ai).bind fun aj=>if aj=I.Type_.Kind then((zg5 s.Body s.Name).bind fun ak=>some (!ak))else(some false))else(some false))else(if I.Type_.Kind=3 then((s.Args[0]?).bind fun al=>(zam p al).bind fun an=>if an=I.Type_.Kind then((s.Args[1]?).bind fun aa=>(zam p aa).bind fun ab=>if ab=I.Type_.Kind then((zg5 s.Body s.Name).bind fun ad=>some (!ad))else(some false))else(some false))else(some false)))else(some false))else(some false))
def zjz (p:xsj) (s:xsl) (U:(List Int)):Nat->Option ((Nat)⊕(Bool⊕Unit))
 |I=>if(I:Int)<(U.length:Int)then((s.Args[I]?).bind fun aa=>(zam p aa).bind fun ab=>(U[I]?).bind fun ad=>if ab=ad then(some (.inl (I+1)))else(some (.inr (.inl (false)))))else(some (.inr (.inr (()))))
def zg7 (p:xsj) (s:xsl):Option Bool:=
 (zby p s.Name).bind fun I=>if I<0 then(some false)else((idx p.Blocks I).bind fun ab=>(zdu ab.Kind).bind fun U=>if(U.length:Int)=(s.Args.length:Int)then((loop (zjz p s U) 0).bind (fun ad=>match ad with|(.inl aa)=>some aa|(.inr ())=>some true))else(some false))
def zfp (p:xsj) (s:xsl):Option Bool:=
 if s.Kind=1 then((za3 p s.Target.Name).bind fun I=>(zam p s.Target).bind fun U=>if 0<=I then((idx p.Vars I).bind fun aa=>if aa.Mode=1 then(some false)else(if U=0 then(some false)else((zam p s.Value).bind fun ab=>some (decide (U=ab)))))else(some false))else(if s.Kind=2 then((zam p s.Value).bind fun ad=>some (decide (ad=1)))else(if s.Kind=3 then((zam p s.Value).bind fun ae=>some (decide (ae=1)))else(if s.Kind=4 then((zg6 p s).bind fun af=>some af)else((zg7 p s).bind fun ai=>some ai))))
def zge (I:xsj->(List xsl)->Option Bool) (p:xsj) (l:List xsl):Nat->Option ((Nat)⊕(Bool⊕Unit))
 |U=>if(U:Int)<(l.length:Int)then((l[U]?).bind fun aa=>(zfp p aa).bind fun ab=>if ab=true then((I p aa.Body).bind fun ad=>if ad=true then((I p aa.Else).bind fun ae=>if ae=true then(some (.inl (U+1)))else(some (.inr (.inl (false)))))else(some (.inr (.inl (false)))))else(some (.inr (.inl (false)))))else(some (.inr (.inr (()))))
def zce (I:xsj->(List xsl)->Option Bool) (p:xsj) (l:List xsl):Option Bool:=
 (loop (zge I p l) 0).bind (fun U=>match U with|(.inl aa)=>some aa|(.inr ())=>some true)
def zdb:Nat->(xsj->(List xsl)->Option Bool)
 |0=>fun _ _=>none
 |n+1=>zce (zdb n)
def zs1 (n:Nat) (p:xsj) (l:List xsl):Option Bool:=(zdb n) p l
def zc5 (p:xsj) (l:List xsl):Option Bool:=zs1 1000000 p l
def zd4 (p:xsj):Nat->Option ((Nat)⊕(Int⊕Unit))
 |I=>if(I:Int)<(p.Tasks.length:Int)then((p.Tasks[I]?).bind fun U=>(zc5 p U.Body).bind fun aa=>if aa=true then(some (.inl (I+1)))else(some (.inr (.inl (6)))))else(some (.inr (.inr (()))))
def zd5 (p:xsj):Nat->Option ((Nat)⊕(Int⊕Unit))
 |I=>if(I:Int)<(p.Blocks.length:Int)then((p.Blocks[I]?).bind fun U=>(zdu U.Kind).bind fun aa=>if(aa.length:Int)=0 then(some (.inr (.inl (6))))else(some (.inl (I+1))))else(some (.inr (.inr (()))))
def zd6 (p:xsj):Nat->Option ((Nat)⊕(Int⊕Unit))
 |U=>if(U:Int)<(p.Vars.length:Int)then((p.Vars[U]?).bind fun I=>(zbz I.Type_).bind fun aa=>if aa=0 then(if I.Mode=0 then((zbm I.Type_.Kind I.Safe).bind fun ab=>if ab=true then(some (.inl (U+1)))else(some (.inr (.inl (6)))))else(if I.Type_.Len=0 then((zbm I.Type_.Kind I.Safe).bind fun ad=>if ad=true then(some (.inl (U+1)))else(some (.inr (.inl (6)))))else(some (.inr (.inl (6))))))else(some (.inr (.inl (6)))))else(some (.inr (.inr (()))))
def zbd (p:xsj):Option Int:=
 (loop (zd6 p) 0).bind (fun I=>match I with|(.inl ab)=>some ab|(.inr ())=>(loop (zd5 p) 0).bind (fun I=>match I with|(.inl U)=>some U|(.inr ())=>(loop (zd4 p) 0).bind (fun I=>match I with|(.inl aa)=>some aa|(.inr ())=>some 0)))
def ze9 (p:xsj):((List Int)×Nat)->Option (((List Int)×Nat)⊕(List Int))
 |(I,U)=>if(U:Int)<(p.Sites.length:Int)then((p.Sites[U]?).bind fun aa=>need ((I.length+2)*8<=140737488355328) (some (.inl ((I++[aa.From,aa.To]),(U+1)))))else(some (.inr (I)))
def zdt (p:xsj) (labels:List Int):((List Int)×Nat)->Option (((List Int)×Nat)⊕(List Int))
 |(I,U)=>if(U:Int)<(w64 ((p.Vars.length:Int)+(p.Blocks.length:Int)))then(if(U:Int)<(labels.length:Int)then((labels[U]?).bind fun aa=>need ((I.length+1)*8<=140737488355328) (some (.inl ((I++[aa]),(U+1)))))else(need ((I.length+1)*8<=140737488355328) (some (.inl ((I++[(-1)]),(U+1))))))else(some (.inr (I)))
def zb3 (p:xsj) (labels:List Int):Option (List Int):=
 (loop (zdt p labels) ([],0)).bind (fun U=>(loop (ze9 p) (U,0)).bind (fun I=>some I))
def zcl (l:xsn) (aa:Nat):(Bool×Nat)->Option ((Bool×Nat)⊕(Bool))
 |(I,U)=>if(U:Int)<(l.Names.length:Int)then(if I=true then((zak l (aa:Int) (U:Int)).bind fun ab=>some (.inl (ab,(U+1))))else(some (.inr (I))))else(some (.inr (I)))
def zdy (l:xsn):Nat->Option ((Nat)⊕(Int⊕Unit))
 |I=>if(I:Int)<(l.Names.length:Int)then((loop (zcl l I) (true,0)).bind (fun U=>if U=true then(some (.inr (.inl ((I:Int)))))else(some (.inl (I+1)))))else(some (.inr (.inr (()))))
def zdz (l:xsn):Option Int:=
 (loop (zdy l) 0).bind (fun U=>match U with|(.inl I)=>some I|(.inr ())=>some (-1))
def zgv (l:xsn) (labels:List Int) (rules:List (A2 Int)):Nat->Option ((Nat)⊕(Bool⊕Unit))
 |U=>if(U:Int)<(rules.length:Int)then((rules[U]?).bind fun I=>if I.a0<0 then(some (.inr (.inl (false))))else(if(labels.length:Int)<=I.a0 then(some (.inr (.inl (false))))else(if I.a1<0 then(some (.inr (.inl (false))))else(if(labels.length:Int)<=I.a1 then(some (.inr (.inl (false))))else((idx labels I.a0).bind fun aa=>(idx labels I.a1).bind fun ab=>(zak l aa ab).bind fun ad=>if ad=true then(some (.inl (U+1)))else(some (.inr (.inl (false)))))))))else(some (.inr (.inr (()))))
def zf6 (l:xsn) (labels:List Int) (rules:List (A2 Int)):Option Bool:=
 (loop (zgv l labels rules) 0).bind (fun I=>match I with|(.inl U)=>some U|(.inr ())=>some true)
def zca (l:xsn) (fixed:List Int) (rules:List (A2 Int)):((List Int)×Bool×Nat)->Option (((List Int)×Bool×Nat)⊕(((List Int)×Bool)⊕((List Int)×Bool)))
 |(I,U,aa)=>if(aa:Int)<(rules.length:Int)then((rules[aa]?).bind fun ab=>(idx I ab.a0).bind fun ad=>(idx I ab.a1).bind fun ae=>(zak l ad ae).bind fun ai=>if ai=true then(some (.inl (I,U,(aa+1))))else((idx fixed ab.a1).bind fun aj=>if aj=(-1)then((zcv l ad ae).bind fun af=>if af<0 then(some (.inr (.inl (([],false)))))else(some (.inl ((I.set ab.a1.toNat af),true,(aa+1)))))else(some (.inl (I,U,(aa+1))))))else(some (.inr (.inr ((I,U)))))
def zc0 (l:xsn) (fixed:List Int) (rules:List (A2 Int)):((List Int)×Bool)->Option (((List Int)×Bool)⊕(((List Int)×Bool)⊕(List Int)))
 |(I,U)=>if U=true then((loop (zca l fixed rules) (I,false,0)).bind (fun ae=>match ae with|(.inl ad)=>some (.inr (.inl (ad)))|(.inr (ab,aa))=>some (.inl (ab,aa))))else(some (.inr (.inr (I))))
def zd9 (rules:List (A2 Int)) (U:List Int):Nat->Option ((Nat)⊕(((List Int)×Bool)⊕Unit))
 |aa=>if(aa:Int)<(rules.length:Int)then((rules[aa]?).bind fun I=>if I.a0<0 then(some (.inr (.inl (([],false)))))else(if(U.length:Int)<=I.a0 then(some (.inr (.inl (([],false)))))else(if I.a1<0 then(some (.inr (.inl (([],false)))))else(if(U.length:Int)<=I.a1 then(some (.inr (.inl (([],false)))))else(some (.inl (aa+1)))))))else(some (.inr (.inr (()))))
def zea (l:xsn) (fixed:List Int) (ab:Int):((List Int)×Nat)->Option (((List Int)×Nat)⊕(((List Int)×Bool)⊕(List Int)))
 |(I,U)=>if(U:Int)<(fixed.length:Int)then((fixed[U]?).bind fun aa=>if aa=(-1)then((za4 l ab).bind fun ae=>if ae=true then(need ((I.length+1)*8<=140737488355328) (some (.inl ((I++[ab]),(U+1)))))else(some (.inr (.inl (([],false))))))else((za4 l aa).bind fun ad=>if ad=true then(need ((I.length+1)*8<=140737488355328) (some (.inl ((I++[aa]),(U+1)))))else(some (.inr (.inl (([],false)))))))else(some (.inr (.inr (I))))
def zf5 (l:xsn) (fixed:List Int) (rules:List (A2 Int)):Option ((List Int)×Bool):=
 (zdz l).bind fun ab=>if ab<0 then(some ([],false))else((loop (zea l fixed ab) ([],0)).bind (fun I=>match I with|(.inl ad)=>some ad|(.inr U)=>(loop (zd9 rules U) 0).bind (fun I=>match I with|(.inl ae)=>some ae|(.inr ())=>(loop (zc0 l fixed rules) (U,true)).bind (fun I=>match I with|(.inl af)=>some af|(.inr aa)=>(zf6 l aa rules).bind fun ai=>if ai=true then(some (aa,true))else(some ([],false))))))
def zju (p:xsj):((List Int)×Nat)->Option (((List Int)×Nat)⊕(List Int))
 |(I,U)=>if(U:Int)<(p.Blocks.length:Int)then((p.Blocks[U]?).bind fun aa=>need ((I.length+1)*8<=140737488355328) (some (.inl ((I++[aa.Label]),(U+1)))))else(some (.inr (I)))
def zjv (p:xsj):((List Int)×Nat)->Option (((List Int)×Nat)⊕(List Int))
 |(I,U)=>if(U:Int)<(p.Vars.length:Int)then((p.Vars[U]?).bind fun aa=>need ((I.length+1)*8<=140737488355328) (some (.inl ((I++[aa.Label]),(U+1)))))else(some (.inr (I)))
def zg4 (p:xsj):Option (List Int):=
 (loop (zjv p) ([],0)).bind (fun U=>(loop (zju p) (U,0)).bind (fun I=>some I))
def zgz (p:xsj) (i:Int):Option Int:=
 some (w64 ((w64 ((w64 ((p.Vars.length:Int)+(p.Blocks.length:Int)))+(w64 (2*i))))+1))
def zig (I:xsj->xsk->Option (List Int)) (p:xsj) (e:xsk):((List Int)×Nat)->Option (((List Int)×Nat)⊕(List Int))
 |(U,aa)=>if(aa:Int)<(e.Args.length:Int)then((e.Args[aa]?).bind fun ad=>(I p ad).bind fun ab=>need ((U.length+ab.length)*8<=140737488355328) (some (.inl ((U++ab),(aa+1)))))else(some (.inr (U)))
def zih (I:xsj->xsk->Option (List Int)) (p:xsj) (e:xsk):((List Int)×Nat)->Option (((List Int)×Nat)⊕(List Int))
 |(U,aa)=>if(aa:Int)<(e.Args.length:Int)then((e.Args[aa]?).bind fun ad=>(I p ad).bind fun ab=>need ((U.length+ab.length)*8<=140737488355328) (some (.inl ((U++ab),(aa+1)))))else(some (.inr (U)))
def zbx (I:xsj->xsk->Option (List Int)) (p:xsj) (e:xsk):Option (List Int):=
 if e.Op=2 then((za3 p e.Name).bind fun ab=>some [ab])else(if e.Op=4 then((zby p e.Name).bind fun ad=>some [(w64 ((p.Vars.length:Int)+ad))])else(if e.Op=21 then((zdq p e.Name).bind fun ae=>(zgz p ae).bind fun af=>some [af])else(if e.Op=3 then((za3 p e.Name).bind fun ai=>(loop (zih I p e) ([ai],0)).bind (fun U=>some U))else((loop (zig I p e) ([],0)).bind (fun aa=>some aa)))))
def zan:Nat->(xsj->xsk->Option (List Int))
 |0=>fun _ _=>none
 |n+1=>zbx (zan n)
def zvd (n:Nat) (p:xsj) (e:xsk):Option (List Int):=(zan n) p e
def zcg (p:xsj) (e:xsk):Option (List Int):=zvd 1000000 p e
def zjx (b:List Int) (U:List Int) (ab:Nat):(Bool×Nat)->Option ((Bool×Nat)⊕(Bool))
 |(I,aa)=>if(aa:Int)<(U.length:Int)then(if I=true then(some (.inr (I)))else((U[aa]?).bind fun ad=>(b[ab]?).bind fun ae=>some (.inl ((decide (ad=ae)),(aa+1)))))else(some (.inr (I)))
def zmf (b:List Int):((List Int)×Nat)->Option (((List Int)×Nat)⊕(List Int))
 |(I,U)=>if(U:Int)<(b.length:Int)then((loop (zjx b I U) (false,0)).bind (fun aa=>if aa=true then(some (.inl (I,(U+1))))else((b[U]?).bind fun ab=>need ((I.length+1)*8<=140737488355328) (some (.inl ((I++[ab]),(U+1)))))))else(some (.inr (I)))
def zjy (b:List Int) (U:List Int) (ae:Nat):(Bool×Nat)->Option ((Bool×Nat)⊕(Bool))
 |(I,aa)=>if(aa:Int)<(U.length:Int)then(if I=true then(some (.inr (I)))else((U[aa]?).bind fun ab=>(b[ae]?).bind fun ad=>some (.inl ((decide (ab=ad)),(aa+1)))))else(some (.inr (I)))
def zmg (b:List Int):((List Int)×Nat)->Option (((List Int)×Nat)⊕(List Int))
 |(I,U)=>if(U:Int)<(b.length:Int)then((loop (zjy b I U) (false,0)).bind (fun ab=>if ab=true then(some (.inl (I,(U+1))))else((b[U]?).bind fun aa=>need ((I.length+1)*8<=140737488355328) (some (.inl ((I++[aa]),(U+1)))))))else(some (.inr (I)))
def zbh (a:List Int) (b:List Int):Option (List Int):=
 if a.isEmpty=true then((loop (zmg b) ([],0)).bind (fun U=>some U))else(need (a.length*8<=140737488355328) ((loop (zmf b) (a,0)).bind (fun I=>some I)))
def zkg (l:List (A2 Int)) (x:A2 Int):Nat->Option ((Nat)⊕(Nat))
 |I=>if(I:Int)<(l.length:Int)then((l[I]?).bind fun U=>if U.a0<x.a0 then(some (.inl (I+1)))else(if U.a0=x.a0 then(if U.a1<x.a1 then(some (.inl (I+1)))else(some (.inr (I))))else(some (.inr (I)))))else(some (.inr (I)))
def zif (l:List (A2 Int)) (x:A2 Int):Option (List (A2 Int)):=
 if x.a0=x.a1 then(some l)else((loop (zkg l x) 0).bind (fun I=>if(I:Int)<(l.length:Int)then((l[I]?).bind fun U=>if U.a0=x.a0/\U.a1=x.a1 then(some l)else(need (0<=0/\0<=(I:Int)/\(I:Int)<=l.length) (if(l.take I).isEmpty=true then(need (0<=(I:Int)/\(I:Int)<=(l.length:Int)/\(l.length:Int)<=l.length) (need ((1+(l.drop I).length)*16<=140737488355328) (some ([x]++(l.drop I)))))else(need ((l.take I).length*16<=140737488355328) (need (((l.take I).length+1)*16<=140737488355328) (need (0<=(I:Int)/\(I:Int)<=(l.length:Int)/\(l.length:Int)<=l.length) (need (((l.take I).length+1+(l.drop I).length)*16<=140737488355328) (some (((l.take I)++[x])++(l.drop I))))))))))else(need (0<=0/\0<=(I:Int)/\(I:Int)<=l.length) (if(l.take I).isEmpty=true then(need (0<=(I:Int)/\(I:Int)<=(l.length:Int)/\(l.length:Int)<=l.length) (need ((1+(l.drop I).length)*16<=140737488355328) (some ([x]++(l.drop I)))))else(need ((l.take I).length*16<=140737488355328) (need (((l.take I).length+1)*16<=140737488355328) (need (0<=(I:Int)/\(I:Int)<=(l.length:Int)/\(l.length:Int)<=l.length) (need (((l.take I).length+1+(l.drop I).length)*16<=140737488355328) (some (((l.take I)++[x])++(l.drop I)))))))))))
def zjw (from_:List Int) (y:Int):((List (A2 Int))×Nat)->Option (((List (A2 Int))×Nat)⊕(List (A2 Int)))
 |(U,I)=>if(I:Int)<(from_.length:Int)then((from_[I]?).bind fun aa=>(zif U (⟨aa,y⟩:A2 Int)).bind fun ab=>some (.inl (ab,(I+1))))else(some (.inr (U)))
def zb9 (l:List (A2 Int)) (from_:List Int) (y:Int):Option (List (A2 Int)):=
 (loop (zjw from_ y) (l,0)).bind (fun I=>some I)
def zl3 (I:xsj->(List (A2 Int))->xsk->(List Int)->Option (List (A2 Int))) (p:xsj) (e:xsk) (aa:List Int):((List (A2 Int))×Nat)->Option (((List (A2 Int))×Nat)⊕(List (A2 Int)))
 |(ab,U)=>if(U:Int)<(e.Args.length:Int)then((e.Args[U]?).bind fun ad=>(I p ab ad aa).bind fun ae=>some (.inl (ae,(U+1))))else(some (.inr (ab)))
def zl4 (I:xsj->(List (A2 Int))->xsk->(List Int)->Option (List (A2 Int))) (p:xsj) (e:xsk) (U:List Int):((List (A2 Int))×Nat)->Option (((List (A2 Int))×Nat)⊕(List (A2 Int)))
 |(ab,aa)=>if(aa:Int)<(e.Args.length:Int)then((e.Args[aa]?).bind fun ad=>(I p ab ad U).bind fun ae=>some (.inl (ae,(aa+1))))else(some (.inr (ab)))
def zep (I:xsj->(List (A2 Int))->xsk->(List Int)->Option (List (A2 Int))) (p:xsj) (l:List (A2 Int)) (e:xsk) (U:List Int):Option (List (A2 Int)):=
 if e.Op=21 then((zdq p e.Name).bind fun ad=>(zgz p ad).bind fun aa=>(e.Args[0]?).bind fun ae=>(zcg p ae).bind fun af=>(zb9 l af (w64 (aa-1))).bind fun ai=>(zb9 ai U aa).bind fun aj=>(loop (zl4 I p e U) (aj,0)).bind (fun ak=>some ak))else((loop (zl3 I p e U) (l,0)).bind (fun ab=>some ab))
def zcc:Nat->(xsj->(List (A2 Int))->xsk->(List Int)->Option (List (A2 Int)))
 |0=>fun _ _ _ _=>none
 |n+1=>zep (zcc n)
def zsy (n:Nat) (p:xsj) (l:List (A2 Int)) (e:xsk) (I:List Int):Option (List (A2 Int)):=(zcc n) p l e I
def zfu (p:xsj) (l:List (A2 Int)) (e:xsk) (I:List Int):Option (List (A2 Int)):=zsy 1000000 p l e I
def zja (p:xsj) (t:List xsk) (I:List Int):((List (A2 Int))×(List Int)×Nat)->Option (((List (A2 Int))×(List Int)×Nat)⊕((List (A2 Int))×(List Int)))
 |(aa,h_2,U)=>if(U:Int)<(t.length:Int)then((t[U]?).bind fun ab=>(zfu p aa ab I).bind fun ad=>(zcg p ab).bind fun ae=>(zbh h_2 ae).bind fun af=>some (.inl (ad,af,(U+1))))else(some (.inr ((aa,h_2))))
def zc4 (p:xsj) (l:List (A2 Int)) (t:List xsk) (I:List Int):Option ((List (A2 Int))×(List Int)):=
 (loop (zja p t I) (l,[],0)).bind (fun(U,aa)=>some (U,aa))
def zfv (s:xsl):Option (List xsk):=
 if s.Target.Op=3 then((s.Target.Args[0]?).bind fun I=>some [I,s.Value])else(some [s.Value])
def zjb (I:xsj->(List (A2 Int))->(List xsl)->(List Int)->Option (List (A2 Int))) (p:xsj) (s:List xsl) (U:List Int):((List (A2 Int))×Nat)->Option (((List (A2 Int))×Nat)⊕(List (A2 Int)))
 |(ad,ab)=>if(ab:Int)<(s.length:Int)then((s[ab]?).bind fun aa=>if aa.Kind=1 then((zfv aa).bind fun aG=>(zc4 p ad aG U).bind fun al=>(zbh al.2 U).bind fun aH=>(za3 p aa.Target.Name).bind fun aI=>(zb9 al.1 aH aI).bind fun an=>some (.inl (an,(ab+1))))else(if aa.Kind=2 then((zcg p aa.Value).bind fun ao=>(zbh U ao).bind fun af=>if aa.Kind=3 then none else((zfu p ad aa.Value U).bind fun aq=>(I p aq aa.Body af).bind fun ar=>(I p ar aa.Else af).bind fun au=>some (.inl (au,(ab+1)))))else(if aa.Kind=3 then((zcg p aa.Value).bind fun av=>(zbh U av).bind fun ae=>(zfu p ad aa.Value ae).bind fun aw=>(I p aw aa.Body ae).bind fun ax=>(I p ax aa.Else ae).bind fun ay=>some (.inl (ay,(ab+1))))else(if aa.Kind=4 then((za3 p aa.Name).bind fun ai=>(zc4 p ad aa.Args U).bind fun aj=>(zbh aj.2 U).bind fun az=>(zb9 aj.1 az ai).bind fun aA=>(zbh U [ai]).bind fun aB=>(I p aA aa.Body aB).bind fun aC=>some (.inl (aC,(ab+1))))else(if aa.Kind=5 then((zc4 p ad aa.Args U).bind fun ak=>(zbh ak.2 U).bind fun aD=>(zby p aa.Name).bind fun aE=>(zb9 ak.1 aD (w64 ((p.Vars.length:Int)+aE))).bind fun aF=>some (.inl (aF,(ab+1))))else(some (.inl (ad,(ab+1)))))))))else(some (.inr (ad)))
def zeo (I:xsj->(List (A2 Int))->(List xsl)->(List Int)->Option (List (A2 Int))) (p:xsj) (l:List (A2 Int)) (s:List xsl) (U:List Int):Option (List (A2 Int)):=
 (loop (zjb I p s U) (l,0)).bind (fun aa=>some aa)
def zda:Nat->(xsj->(List (A2 Int))->(List xsl)->(List Int)->Option (List (A2 Int)))
 |0=>fun _ _ _ _=>none
 |n+1=>zeo (zda n)
def zsx (n:Nat) (p:xsj) (l:List (A2 Int)) (s:List xsl) (I:List Int):Option (List (A2 Int)):=(zda n) p l s I
def znz (p:xsj) (l:List (A2 Int)) (s:List xsl) (I:List Int):Option (List (A2 Int)):=zsx 1000000 p l s I
def zjd (p:xsj):((List (A2 Int))×Nat)->Option (((List (A2 Int))×Nat)⊕(List (A2 Int)))
 |(U,I)=>if(I:Int)<(p.Tasks.length:Int)then((p.Tasks[I]?).bind fun aa=>(znz p U aa.Body []).bind fun ab=>some (.inl (ab,(I+1))))else(some (.inr (U)))
def zfw (p:xsj):Option (List (A2 Int)):=
 (loop (zjd p) ([],0)).bind (fun I=>some I)
def zbk (p:xsj):Option ((List Int)×Int):=
 (zg4 p).bind fun U=>(zb3 p U).bind fun aa=>(zfw p).bind fun ab=>(zf5 p.Lattice aa ab).bind fun I=>if I.2=true then(need (0<=0/\0<=(w64 ((p.Vars.length:Int)+(p.Blocks.length:Int)))/\(w64 ((p.Vars.length:Int)+(p.Blocks.length:Int)))<=I.1.length) (some ((I.1.take (w64 ((p.Vars.length:Int)+(p.Blocks.length:Int))).toNat),0)))else(some ([],7))
def zl0 (ae:(List Int)×Int) (ab:List xsq):((List xsw)×Nat)->Option (((List xsw)×Nat)⊕(List xsw))
 |(I,U)=>if(U:Int)<(I.length:Int)then((idx ae.1 (w64 ((ab.length:Int)+(U:Int)))).bind fun ad=>(I[U]?).bind fun aa=>some (.inl ((I.set U (⟨aa.Name,aa.Kind,ad⟩:xsw)),(U+1))))else(some (.inr (I)))
def zl1 (ad:(List Int)×Int):((List xsq)×Nat)->Option (((List xsq)×Nat)⊕(List xsq))
 |(I,U)=>if(U:Int)<(I.length:Int)then((ad.1[U]?).bind fun ab=>(I[U]?).bind fun aa=>some (.inl ((I.set U (⟨aa.Name,aa.Type_,aa.Mode,ab,aa.Safe⟩:xsq)),(U+1))))else(some (.inr (I)))
def zi4 (aa:(List Int)×Int) (U:List xsq):Int->Option ((Int)⊕(Unit))
 |I=>if I<0 then((idx aa.1 (w64 ((U.length:Int)+I))).bind fun ab=>none)else(some (.inr (())))
def zl2 (ad:(List Int)×Int):((List xsq)×Nat)->Option (((List xsq)×Nat)⊕(List xsq))
 |(I,U)=>if(U:Int)<(I.length:Int)then((ad.1[U]?).bind fun ab=>(I[U]?).bind fun aa=>some (.inl ((I.set U (⟨aa.Name,aa.Type_,aa.Mode,ab,aa.Safe⟩:xsq)),(U+1))))else(some (.inr (I)))
def zi5 (ad:(List Int)×Int):((List xsw)×Nat)->Option (((List xsw)×Nat)⊕(List xsw))
 |(I,U)=>if(U:Int)<(I.length:Int)then((idx ad.1 (w64 (0+(U:Int)))).bind fun ab=>(I[U]?).bind fun aa=>some (.inl ((I.set U (⟨aa.Name,aa.Kind,ab⟩:xsw)),(U+1))))else(some (.inr (I)))
def zi6 (U:(List Int)×Int):Int->Option ((Int)⊕(Unit))
 |I=>if I<0 then((idx U.1 I).bind fun aa=>none)else(some (.inr (())))
def zi7 (U:(List Int)×Int):Int->Option ((Int)⊕(Unit))
 |I=>if I<0 then((idx U.1 (w64 (0+I))).bind fun aa=>none)else(some (.inr (())))
def zi8 (U:(List Int)×Int):Int->Option ((Int)⊕(Unit))
 |I=>if I<0 then((idx U.1 I).bind fun aa=>none)else(some (.inr (())))
def zft (p:xsj):Option (xsj×Int):=
 (zg3 p).bind fun ao=>if ao=true then((zf7 p.Lattice).bind fun ae=>if ae=0 then((zfy p).bind fun af=>if af=0 then((zbd p).bind fun ai=>if ai=0 then((zbk p).bind fun I=>if I.2=0 then(if p.Vars.isEmpty=true then(if p.Blocks.isEmpty=true then((loop (zi8 I) 0).bind (fun _=>(loop (zi7 I) 0).bind (fun _=>(zbl (⟨p.Lattice,p.Sites,[],[],p.Tasks⟩:xsj)).bind fun aj=>if aj=true then(some ((⟨p.Lattice,p.Sites,[],[],p.Tasks⟩:xsj),0))else(some ((⟨(⟨[],[]⟩:xsn),[],[],[],[]⟩:xsj),3)))))else(need (p.Blocks.length*40<=140737488355328) ((loop (zi6 I) 0).bind (fun _=>(loop (zi5 I) (p.Blocks,0)).bind (fun ab=>(zbl (⟨p.Lattice,p.Sites,[],ab,p.Tasks⟩:xsj)).bind fun ak=>if ak=true then(some ((⟨p.Lattice,p.Sites,[],ab,p.Tasks⟩:xsj),0))else(some ((⟨(⟨[],[]⟩:xsn),[],[],[],[]⟩:xsj),3)))))))else(need (p.Vars.length*64<=140737488355328) (if p.Blocks.isEmpty=true then((loop (zl2 I) (p.Vars,0)).bind (fun U=>(loop (zi4 I U) 0).bind (fun _=>(zbl (⟨p.Lattice,p.Sites,U,[],p.Tasks⟩:xsj)).bind fun al=>if al=true then(some ((⟨p.Lattice,p.Sites,U,[],p.Tasks⟩:xsj),0))else(some ((⟨(⟨[],[]⟩:xsn),[],[],[],[]⟩:xsj),3)))))else(need (p.Blocks.length*40<=140737488355328) ((loop (zl1 I) (p.Vars,0)).bind (fun aa=>(loop (zl0 I aa) (p.Blocks,0)).bind (fun ad=>(zbl (⟨p.Lattice,p.Sites,aa,ad,p.Tasks⟩:xsj)).bind fun an=>if an=true then(some ((⟨p.Lattice,p.Sites,aa,ad,p.Tasks⟩:xsj),0))else(some ((⟨(⟨[],[]⟩:xsn),[],[],[],[]⟩:xsj),3)))))))))else(some ((⟨(⟨[],[]⟩:xsn),[],[],[],[]⟩:xsj),I.2)))else(some ((⟨(⟨[],[]⟩:xsn),[],[],[],[]⟩:xsj),ai)))else(some ((⟨(⟨[],[]⟩:xsn),[],[],[],[]⟩:xsj),af)))else(some ((⟨(⟨[],[]⟩:xsn),[],[],[],[]⟩:xsj),ae)))else(some ((⟨(⟨[],[]⟩:xsn),[],[],[],[]⟩:xsj),3))
def zh3 (a:xsn) (b:xsn):Nat->Option ((Nat)⊕(Bool⊕Unit))
 |I=>if(I:Int)<(a.Below.length:Int)then((a.Below[I]?).bind fun U=>(b.Below[I]?).bind fun aa=>if U.a0=aa.a0/\U.a1=aa.a1 then(some (.inl (I+1)))else(some (.inr (.inl (false)))))else(some (.inr (.inr (()))))
def zh4 (a:xsn) (b:xsn):Nat->Option ((Nat)⊕(Bool⊕Unit))
 |I=>if(I:Int)<(a.Names.length:Int)then((a.Names[I]?).bind fun U=>(b.Names[I]?).bind fun aa=>if U=aa then(some (.inl (I+1)))else(some (.inr (.inl (false)))))else(some (.inr (.inr (()))))
def zhi (a:xsn) (b:xsn):Option Bool:=
 if(a.Names.length:Int)=(b.Names.length:Int)then(if(a.Below.length:Int)=(b.Below.length:Int)then((loop (zh4 a b) 0).bind (fun I=>match I with|(.inl aa)=>some aa|(.inr ())=>(loop (zh3 a b) 0).bind (fun I=>match I with|(.inl U)=>some U|(.inr ())=>some true)))else(some false))else(some false)
def zh2 (a:List Int) (b:List Int):Nat->Option ((Nat)⊕(Bool⊕Unit))
 |I=>if(I:Int)<(a.length:Int)then((a[I]?).bind fun U=>(b[I]?).bind fun aa=>if U=aa then(some (.inl (I+1)))else(some (.inr (.inl (false)))))else(some (.inr (.inr (()))))
def ze1 (a:List Int) (b:List Int):Option Bool:=
 if(a.length:Int)=(b.length:Int)then((loop (zh2 a b) 0).bind (fun I=>match I with|(.inl U)=>some U|(.inr ())=>some true))else(some false)
def zh0 (I:(List xsl)->(List xsl)->Option Bool) (a:List xsl) (b:List xsl):Nat->Option ((Nat)⊕(Bool⊕Unit))
 |ab=>if(ab:Int)<(a.length:Int)then((a[ab]?).bind fun U=>(b[ab]?).bind fun aa=>if U.Kind=aa.Kind then(if U.Name=aa.Name then((zdr U.Target aa.Target).bind fun ae=>if ae=true then((zdr U.Value aa.Value).bind fun af=>if af=true then((zdr (⟨0,0,0,[],U.Args⟩:xsk) (⟨0,0,0,[],aa.Args⟩:xsk)).bind fun ai=>if ai=true then((I U.Body aa.Body).bind fun aj=>if aj=true then((I U.Else aa.Else).bind fun ad=>if ad=true then(some (.inl (ab+1)))else(some (.inr (.inl (false)))))else(some (.inr (.inl (false)))))else(some (.inr (.inl (false)))))else(some (.inr (.inl (false)))))else(some (.inr (.inl (false)))))else(some (.inr (.inl (false)))))else(some (.inr (.inl (false)))))else(some (.inr (.inr (()))))
def zfh (I:(List xsl)->(List xsl)->Option Bool) (a:List xsl) (b:List xsl):Option Bool:=
 if(a.length:Int)=(b.length:Int)then((loop (zh0 I a b) 0).bind (fun aa=>match aa with|(.inl U)=>some U|(.inr ())=>some true))else(some false)
def zfg:Nat->((List xsl)->(List xsl)->Option Bool)
 |0=>fun _ _=>none
 |n+1=>zfh (zfg n)
def zuc (n:Nat) (a:List xsl) (b:List xsl):Option Bool:=(zfg n) a b
def zla (a:List xsl) (b:List xsl):Option Bool:=zuc 1000000 a b
def zgo (a:xs2) (b:xs2):Option Bool:=
 if a.Every=b.Every then(if a.Priority=b.Priority then((ze1 a.Budget b.Budget).bind fun I=>if I=true then((zla a.Body b.Body).bind fun U=>some U)else(some false))else(some false))else(some false)
def zhv (a:xsj) (b:xsj):Nat->Option ((Nat)⊕(Bool⊕Unit))
 |I=>if(I:Int)<(a.Tasks.length:Int)then((a.Tasks[I]?).bind fun U=>(b.Tasks[I]?).bind fun aa=>(zgo U aa).bind fun ab=>if ab=true then(some (.inl (I+1)))else(some (.inr (.inl (false)))))else(some (.inr (.inr (()))))
def zhw (a:xsj) (b:xsj):Nat->Option ((Nat)⊕(Bool⊕Unit))
 |I=>if(I:Int)<(a.Blocks.length:Int)then((a.Blocks[I]?).bind fun U=>(b.Blocks[I]?).bind fun aa=>if U.Name=aa.Name/\U.Kind=aa.Kind/\U.Label=aa.Label then(some (.inl (I+1)))else(some (.inr (.inl (false)))))else(some (.inr (.inr (()))))
def zhx (a:xsj) (b:xsj):Nat->Option ((Nat)⊕(Bool⊕Unit))
 |aa=>if(aa:Int)<(a.Vars.length:Int)then((a.Vars[aa]?).bind fun I=>(b.Vars[aa]?).bind fun U=>if I.Name=U.Name/\I.Type_.Kind=U.Type_.Kind/\I.Type_.Low=U.Type_.Low/\I.Type_.Len=U.Type_.Len/\I.Mode=U.Mode/\I.Label=U.Label/\I.Safe=U.Safe then(some (.inl (aa+1)))else(some (.inr (.inl (false)))))else(some (.inr (.inr (()))))
def zhy (a:xsj) (b:xsj):Nat->Option ((Nat)⊕(Bool⊕Unit))
 |I=>if(I:Int)<(a.Sites.length:Int)then((a.Sites[I]?).bind fun U=>(b.Sites[I]?).bind fun aa=>if U.Name=aa.Name/\U.From=aa.From/\U.To=aa.To then(some (.inl (I+1)))else(some (.inr (.inl (false)))))else(some (.inr (.inr (()))))
def zhb (a:xsj) (b:xsj):Option Bool:=
 (zhi a.Lattice b.Lattice).bind fun ad=>if ad=true then(if(a.Sites.length:Int)=(b.Sites.length:Int)then(if(a.Vars.length:Int)=(b.Vars.length:Int)then(if(a.Blocks.length:Int)=(b.Blocks.length:Int)then(if(a.Tasks.length:Int)=(b.Tasks.length:Int)then((loop (zhy a b) 0).bind (fun I=>match I with|(.inl ae)=>some ae|(.inr ())=>(loop (zhx a b) 0).bind (fun I=>match I with|(.inl U)=>some U|(.inr ())=>(loop (zhw a b) 0).bind (fun I=>match I with|(.inl aa)=>some aa|(.inr ())=>(loop (zhv a b) 0).bind (fun I=>match I with|(.inl ab)=>some ab|(.inr ())=>some true)))))else(some false))else(some false))else(some false))else(some false))else(some false)
def zfo (p:xsj):Option Bool:=
 (zft p).bind fun I=>if I.2=0 then((zhb p I.1).bind fun U=>some U)else(some false)
end
theorem zsa {I:xsk->Int->Int->Option Int} {e:xsk} {deep:Int} {left:Int} {r:Int}
  (U:∀(x0:xsk) (x1:Int) (x2:Int) (r:Int),I x0 x1 x2=some r->Pu prog 76 [.agg (xsm x0),.one (.int .i64 x1),.one (.int .i64 x2)] (.one (.int .i64 r))) (h:zf9 I e deep left=some r):
  Pu prog 76 [.agg (xsm e),.one (.int .i64 deep),.one (.int .i64 left)] (.one (.int .i64 r)):=by
 have F:=trivial;have R:=trivial
 refine pA func76 ?_;simp only[f76];unfold zf9 at h;refine tr ?_;intros;refine fi h F ?_ ?_<;>intro h _ F;cases h;exact fin;refine fi h F ?_ ?_<;>intro h _ F;cases h;exact fin;refine bi h fun af h aj=>?_;refine tt ?_
 refine lX aj (fun|(ab,ad),_=>⟨[(1,.one (.int .i64 deep)),(2,.one (.int .i64 ab)),(3,.one (.ref 0 0 0 0)),(7,.one (.int .i64 (ad:Int)))],[.cells 0 5 [[.int .i64 e.Op,.int .i64 e.N,.int .i64 e.Kind,.str e.Name,.sl (e.Args.map xsm)]]]⟩) (fun|af,_=>⟨[(2,.one (.int .i64 af))],[.cells 0 5 [[.int .i64 e.Op,.int .i64 e.N,.int .i64 e.Kind,.str e.Name,.sl (e.Args.map xsm)]]]⟩) (fun _=>some 0) ?_ ?_
 intro i4 b4 al;obtain rfl:=Wab al;obtain⟨⟩:=b4;dsimp only at h|-;cases h;exact fin;intro ai m4 s4 a4 o4 aa ae an;obtain⟨ab,ad⟩:=s4;obtain⟨⟩:=a4;dsimp only[zd2]at aa|-;refine tr ?_;intros;refine fl aa F ?_ ?_<;>intro aa _ F;refine fi aa F ?_ ?_<;>intro aa _ F;refine bx aa F fun aq aa ao F=>?_;refine bi aa fun ar aa ak=>?_;refine tr ?_;intros;refine cS (U _ _ _ _ ak) ?_;cases aa
 refine tt ?_;refine wn ad F fun F=>?_;exact bk an ae ();cases aa;refine tt ?_;exact xt ae ai ();cases aa;refine tt ?_;exact xt ae ai ()
theorem zr9 (n:Nat):(∀(I:xsk) (U:Int) (x2:Int) (r:Int),(zc8 n) I U x2=some r->Pu prog 76 [.agg (xsm I),.one (.int .i64 U),.one (.int .i64 x2)] (.one (.int .i64 r))):=by
 induction n with
 |zero=>exact fun _ _ _ r h=>(by cases h)
 |succ n ih=>
  have aa:=ih
  exact fun _ _ _ r h=>zsa aa h
theorem zd1 {e:xsk} {deep:Int} {left:Int} {r:Int} (h:zc9 e deep left=some r):Pu prog 76 [.agg (xsm e),.one (.int .i64 deep),.one (.int .i64 left)] (.one (.int .i64 r)):=(zr9 1000000) _ _ _ _ h
theorem zr8 {ab:(List xsl)->Int->Int->Option Int} {l:List xsl} {deep:Int} {left:Int} {r:Int}
  (U:∀(x0:List xsl) (x1:Int) (x2:Int) (r:Int),ab x0 x1 x2=some r->Pu prog 37 [.one (.sl (x0.map xsp)),.one (.int .i64 x1),.one (.int .i64 x2)] (.one (.int .i64 r))) (h:zei ab l deep left=some r):
  Pu prog 37 [.one (.sl (l.map xsp)),.one (.int .i64 deep),.one (.int .i64 left)] (.one (.int .i64 r)):=by
 have F:=trivial;have R:=trivial
 refine pA func37 ?_;simp only[f37];unfold zei at h;refine tr ?_;intros;refine fi h F ?_ ?_<;>intro h _ F;refine fi h F ?_ ?_<;>intro h _ F;cases h;exact fin;refine tt ?_;refine fi h F ?_ ?_<;>intro h _ F;cases h;exact fin;refine bi h fun aA h aC=>?_;refine tt ?_
 refine lX aC (fun|(al,af),_=>⟨[(0,.one (.sl (l.map xsp))),(1,.one (.int .i64 deep)),(2,.one (.int .i64 al)),(7,.one (.int .i64 (af:Int)))],[]⟩) (fun|aA,_=>⟨[(2,.one (.int .i64 aA))],[]⟩) (fun _=>some 0) ?_ ?_
 intro i4 b4 aI;obtain rfl:=Wab aI;obtain⟨⟩:=b4;dsimp only at h|-;cases h;exact fin;intro aB m4 s4 a4 o4 aa ai an;obtain⟨al,af⟩:=s4;obtain⟨⟩:=a4;dsimp only[zb5]at aa|-;refine tr ?_;intros;refine fl aa F ?_ ?_<;>intro aa _ F;refine fi aa F ?_ ?_<;>intro aa _ F;refine bx aa F fun aV aa aN F=>?_;refine bi aa fun aW aa aD=>?_;refine tr ?_;intros;refine cD (zd1 aD) ?_;refine tr ?_
 intros;refine fi aa F ?_ ?_<;>intro aa _ F;refine bi aa fun aX aa aE=>?_;refine tr ?_;intros;refine cS (zd1 aE) ?_;refine fi aa F ?_ ?_<;>intro aa _ F;refine bi aa fun aY aa aF=>?_;refine tr ?_;intros;refine cS (zd1 aF) ?_;refine fi aa F ?_ ?_<;>intro aa _ F;refine bi aa fun aZ aa aG=>?_;refine tr ?_;intros;refine cS (U _ _ _ _ aG) ?_;refine fi aa F ?_ ?_<;>intro aa _ F;refine bi aa fun aO aa ar=>?_
 refine tr ?_;intros;refine cS (U _ _ _ _ ar) ?_;cases aa;refine tt ?_;refine wn af F fun F=>?_;exact bk an ai ();cases aa;refine tt ?_;refine wn af F fun F=>?_;exact bk an ai ();cases aa;refine tt ?_;refine wn af F fun F=>?_;exact bk an ai ();cases aa;refine tt ?_;refine wn af F fun F=>?_;exact bk an ai ();cases aa;refine tt ?_;refine wn af F fun F=>?_;exact bk an ai ();cases aa;refine tt ?_
 exact xt ai aB ();cases aa;refine tt ?_;exact xt ai aB ();refine fi h F ?_ ?_<;>intro h _ F;cases h;exact fin;refine bi h fun ao h au=>?_;refine tt ?_
 refine lX au (fun|(ak,ad),_=>⟨[(0,.one (.sl (l.map xsp))),(1,.one (.int .i64 deep)),(2,.one (.int .i64 ak)),(7,.one (.int .i64 (ad:Int)))],[]⟩) (fun|ao,_=>⟨[(2,.one (.int .i64 ao))],[]⟩) (fun _=>some 0) ?_ ?_
 intro i15 aJ aH;obtain rfl:=Wab aH;obtain⟨⟩:=aJ;dsimp only at h|-;cases h;exact fin;intro aq a5 aK aL a6 I ae aj;obtain⟨ak,ad⟩:=aK;obtain⟨⟩:=aL;dsimp only[zki]at I|-;refine tr ?_;intros;refine fl I F ?_ ?_<;>intro I _ F;refine fi I F ?_ ?_<;>intro I _ F;refine bx I F fun aP I aM F=>?_;refine bi I fun aQ I av=>?_;refine tr ?_;intros;refine cD (zd1 av) ?_;refine tr ?_;intros
 refine fi I F ?_ ?_<;>intro I _ F;refine bi I fun aR I aw=>?_;refine tr ?_;intros;refine cS (zd1 aw) ?_;refine fi I F ?_ ?_<;>intro I _ F;refine bi I fun aS I ax=>?_;refine tr ?_;intros;refine cS (zd1 ax) ?_;refine fi I F ?_ ?_<;>intro I _ F;refine bi I fun aT I ay=>?_;refine tr ?_;intros;refine cS (U _ _ _ _ ay) ?_;refine fi I F ?_ ?_<;>intro I _ F;refine bi I fun aU I az=>?_;refine tr ?_
 intros;refine cS (U _ _ _ _ az) ?_;cases I;refine tt ?_;refine wn ad F fun F=>?_;exact bk aj ae ();cases I;refine tt ?_;refine wn ad F fun F=>?_;exact bk aj ae ();cases I;refine tt ?_;refine wn ad F fun F=>?_;exact bk aj ae ();cases I;refine tt ?_;refine wn ad F fun F=>?_;exact bk aj ae ();cases I;refine tt ?_;refine wn ad F fun F=>?_;exact bk aj ae ();cases I;refine tt ?_;exact xt ae aq ()
 cases I;refine tt ?_;exact xt ae aq ()
theorem zr7 (n:Nat):(∀(I:List xsl) (U:Int) (x2:Int) (r:Int),(zbo n) I U x2=some r->Pu prog 37 [.one (.sl (I.map xsp)),.one (.int .i64 U),.one (.int .i64 x2)] (.one (.int .i64 r))):=by
 induction n with
 |zero=>exact fun _ _ _ r h=>(by cases h)
 |succ n ih=>
  have aa:=ih
  exact fun _ _ _ r h=>zr8 aa h
theorem zuh {l:List xsl} {deep:Int} {left:Int} {r:Int} (h:zl6 l deep left=some r):Pu prog 37 [.one (.sl (l.map xsp)),.one (.int .i64 deep),.one (.int .i64 left)] (.one (.int .i64 r)):=(zr7 1000000) _ _ _ _ h
theorem zne {p:xsj} {r:Int} (h:zef p=some r):
  Pu prog 13 [.agg (xso p)] (.one (.int .i64 r)):=by
 have F:=trivial;have R:=trivial
 refine pA func13 ?_;simp only[f13];unfold zef at h;refine tr ?_;intros;refine fi h F ?_ ?_<;>intro h _ F;cases h;exact fin;refine tr ?_;intros;refine fi h F ?_ ?_<;>intro h _ F;cases h;exact fin;refine bi h fun ae h ab=>?_;refine tt ?_
 refine lX ab (fun|U,_=>⟨[(1,.one (.ref 0 0 0 0)),(4,.one (.int .i64 (U:Int)))],[.cells 0 6 [(eP_ p)]]⟩) (fun|(.inl aj),_=>⟨[],[]⟩|(.inr ()),_=>⟨[],[.cells 0 6 [(eP_ p)]]⟩) (fun|(.inl _)=>none|(.inr _)=>some 0) ?_ ?_
 intro i3 b3 aa
 rcases ae with af|⟨⟩
 cases aa;obtain rfl:=Wab aa;obtain⟨⟩:=b3;dsimp only at h|-;cases h;exact fin;intro af3 m3 U a3 o3 I ho3 ih3;obtain⟨⟩:=a3;dsimp only[zcw]at I|-;refine tr ?_;intros;refine fl I F ?_ ?_<;>intro I _ F;refine bx I F fun ak I ai F=>?_;refine tr ?_;intros;refine fi I F ?_ ?_<;>intro I _ F;cases I;obtain rfl:=sr ho3
 try dsimp only at h
 cases h;exact fin;refine bi I fun al I ad=>?_;refine tr ?_;intros;refine cS (zuh ad) ?_;refine fi I F ?_ ?_<;>intro I _ F;cases I;obtain rfl:=sr ho3
 try dsimp only at h
 cases h;exact fin;cases I;refine tt ?_;refine wn U F fun F=>?_;exact bk ih3 ho3 ();cases I;refine tt ?_;exact xt ho3 af3 ()
theorem zll {c:Int} {r:Bool} (h:zdw c=some r):
  Pu prog 198 [.one (.int .u8 c)] (.one (.bool r)):=by
 have F:=trivial;have R:=trivial
 refine pA func198 ?_;simp only[f198];unfold zdw at h;refine fi h F ?_ ?_<;>intro h _ F;refine tt ?_;refine fi h F ?_ ?_<;>intro h _ F;cases h;exact fin;refine fi h F ?_ ?_<;>intro h _ F;refine tt ?_;refine fi h F ?_ ?_<;>intro h _ F;cases h;exact fin;cases h;exact fin;cases h;exact fin;refine tt ?_;refine fi h F ?_ ?_<;>intro h _ F;refine fi h F ?_ ?_<;>intro h _ F;cases h;exact fin
 cases h;exact fin;cases h;exact fin
theorem zr2 {c:Int} {r:Bool} (h:zf4 c=some r):
  Pu prog 199 [.one (.int .u8 c)] (.one (.bool r)):=by
 have F:=trivial;have R:=trivial
 refine pA func199 ?_;simp only[f199];unfold zf4 at h;refine fi h F ?_ ?_<;>intro h _ F;cases h;exact fin;cases h;exact fin
theorem zuf {s:Str} {r:Int} (h:zil s=some r):
  Pu prog 185 [.one (.str s)] (.one (.int .i64 r)):=by
 have F:=trivial;have R:=trivial
 refine pA func185 ?_;simp only[f185];unfold zil at h;refine fi h F ?_ ?_<;>intro h _ F;cases h;exact fin;refine bx h F fun aq h an F=>?_;refine bi h fun ar h af=>?_;refine tr ?_;intros;refine cS (zll af) ?_;refine fv h F ?_ ?_<;>intro h _ F;refine bi h fun ab h ai=>?_;refine tt ?_
 refine lX ai (fun|U,_=>⟨[(0,.one (.str s)),(3,.one (.int .i64 (U:Int)))],[]⟩) (fun|ab,_=>⟨[(3,.one (.int .i64 (ab:Int)))],[]⟩) (fun _=>some 0) ?_ ?_
 intro i5 b5 al;obtain rfl:=Wab al;obtain⟨⟩:=b5;dsimp only at h|-;cases h;exact fin;intro ad m5 U a5 o5 I aa ae;obtain⟨⟩:=a5;dsimp only[zkh]at I|-;refine tr ?_;intros;refine fl I F ?_ ?_<;>intro I _ F;refine bx I F fun au I ao F=>?_;refine bi I fun av I aj=>?_;refine tr ?_;intros;refine cS (zll aj) ?_;refine fv I F ?_ ?_<;>intro I _ F;cases I;refine tt ?_;refine wn U F fun F=>?_
 exact bk ae aa ();refine bi I fun aw I ak=>?_;refine tr ?_;intros;refine cS (zr2 ak) ?_;refine fv I F ?_ ?_<;>intro I _ F;cases I;refine tt ?_;refine wn U F fun F=>?_;exact bk ae aa ();cases I;refine tt ?_;exact xt aa ad ();cases I;refine tt ?_;exact xt aa ad ();cases h;exact fin
theorem zl5 {s:Str} {names:Str} {r:Bool} (h:zeh s names=some r):
  Pu prog 159 [.one (.str s),.one (.str names)] (.one (.bool r)):=by
 have F:=trivial;have R:=trivial
 refine pA func159 ?_;simp only[f159];unfold zeh at h;refine bi h fun ai h af=>?_;refine tt ?_
 refine lX af (fun|(ab,aa),_=>⟨[(0,.one (.str s)),(1,.one (.str names)),(5,.one (.int .i64 ab)),(6,.one (.int .i64 (aa:Int)))],[]⟩) (fun|(.inl an),_=>⟨[],[]⟩|(.inr ()),_=>⟨[],[]⟩) (fun|(.inl _)=>none|(.inr _)=>some 0) ?_ ?_
 intro i4 b4 ae
 rcases ai with aj|⟨⟩
 cases ae;obtain rfl:=Wab ae;obtain⟨⟩:=b4;dsimp only at h|-;cases h;exact fin;intro ak m4 s4 a4 o4 I U ad;obtain⟨ab,aa⟩:=s4;obtain⟨⟩:=a4;dsimp only[zjm]at I|-;refine tr ?_;intros;refine fm I F ?_ ?_<;>intro I _ F;refine tr ?_;intros;refine fi I F ?_ ?_<;>intro I _ F;refine fi I F ?_ ?_<;>intro I _ F;refine nd I F fun I F=>?_;refine tr ?_;intros;refine fi I F ?_ ?_<;>intro I _ F
 cases I;obtain rfl:=sr U
 try dsimp only at h
 cases h;exact fin;cases I;refine tt ?_;refine wn aa F fun F=>?_;exact bk ad U ();cases I;refine tt ?_;refine wn aa F fun F=>?_;exact bk ad U ();refine bx I F fun ao I al F=>?_;refine tr ?_;intros;refine fi I F ?_ ?_<;>intro I _ F;refine fi I F ?_ ?_<;>intro I _ F;refine nd I F fun I F=>?_;refine tr ?_;intros;refine fi I F ?_ ?_<;>intro I _ F;cases I;obtain rfl:=sr U
 try dsimp only at h
 cases h;exact fin;cases I;refine tt ?_;refine wn aa F fun F=>?_;exact bk ad U ();cases I;refine tt ?_;refine wn aa F fun F=>?_;exact bk ad U ();cases I;refine tt ?_;refine wn aa F fun F=>?_;exact bk ad U ();cases I;refine tt ?_;exact xt U ak ()
theorem ztg {s:Str} {r:Bool} (h:zhg s=some r):
  Pu prog 186 [.one (.str s)] (.one (.bool r)):=by
 have F:=trivial;have R:=trivial
 refine pA func186 ?_;simp only[f186];unfold zhg at h;refine bi h fun U h I=>?_;refine tr ?_;intros;refine cS (zl5 I) ?_;cases h;exact fin
theorem zr1 {s:Str} {r:Str} (h:zf3 s=some r):
  Pu prog 187 [.one (.str s)] (.one (.str r)):=by
 have F:=trivial;have R:=trivial
 refine pA func187 ?_;simp only[f187];unfold zf3 at h;refine bi h fun ad h ai=>?_;refine tt ?_
 refine lX ai (fun|(aa,U),_=>⟨[(3,.one (.msl 0 0 0 aa.length)),(4,.one (.int .i64 (U:Int)))],[.cells 0 1 (aa.map (eK .u8))]⟩) (fun|ad,_=>⟨[(3,.one (.msl 0 0 0 ad.length))],[.cells 0 1 (ad.map (eK .u8))]⟩) (fun _=>some 0) ?_ ?_
 intro i4 b4 aj;obtain rfl:=Wab aj;obtain⟨⟩:=b4;dsimp only at h|-;cases h;exact fin;intro ak m4 s4 a4 o4 I ab ae;obtain⟨aa,U⟩:=s4;obtain⟨⟩:=a4;dsimp only[zjl]at I|-;refine tr ?_;intros;refine fl I F ?_ ?_<;>intro I _ F;refine bx I F fun af I al F=>?_;refine tr ?_;intros;refine fi I F ?_ ?_<;>intro I _ F;refine tr ?_;intros;refine fi I F ?_ ?_<;>intro I _ F
 have R:=And.intro (show(List.map (eK .u8) aa).set U [.int .u8 (IntKind.u8.wrap (af-32))]=List.map (eK .u8) (aa.set U (IntKind.u8.wrap (af-32))) by simp[go_sem,WaL]) R
 cases I;refine tr ?_;intros;refine wn U F fun F=>?_;exact bk ae ab ();cases I;refine tt ?_;refine wn U F fun F=>?_;exact bk ae ab ();cases I;refine tt ?_;refine wn U F fun F=>?_;exact bk ae ab ();cases I;refine tt ?_;exact xt ab ak ()
theorem za0 {s:Str} {r:Bool} (h:zav s=some r):
  Pu prog 155 [.one (.str s)] (.one (.bool r)):=by
 have F:=trivial;have R:=trivial
 refine pA func155 ?_;simp only[f155];unfold zav at h;refine fi h F ?_ ?_<;>intro h _ F;cases h;exact fin;refine tr ?_;intros;refine fi h F ?_ ?_<;>intro h _ F;refine bi h fun ab h I=>?_;refine tr ?_;intros;refine cS (zuf I) ?_;refine tr ?_;intros;refine fi h F ?_ ?_<;>intro h _ F;refine bi h fun ad h U=>?_;refine tr ?_;intros;refine cS (zr1 U) ?_;refine bi h fun ae h aa=>?_;refine tr ?_
 intros;refine cS (ztg aa) ?_;cases h;exact fin;cases h;exact fin;cases h;exact fin
theorem zs6 {l:List Str} {name:Str} {r:Int} (h:zha l name=some r):
  Pu prog 156 [.one (.sl (l.map eS)),.one (.str name)] (.one (.int .i64 r)):=by
 have F:=trivial;have R:=trivial
 refine pA func156 ?_;simp only[f156];unfold zha at h;refine bi h fun ad h ab=>?_;refine tt ?_
 refine lX ab (fun|U,_=>⟨[(0,.one (.sl (l.map eS))),(1,.one (.str name)),(5,.one (.int .i64 (U:Int)))],[]⟩) (fun|(.inl ai),_=>⟨[],[]⟩|(.inr ()),_=>⟨[],[]⟩) (fun|(.inl _)=>none|(.inr _)=>some 0) ?_ ?_
 intro i3 b3 aa
 rcases ad with ae|⟨⟩
 cases aa;obtain rfl:=Wab aa;obtain⟨⟩:=b3;dsimp only at h|-;cases h;exact fin;intro af3 m3 U a3 o3 I ho3 ih3;obtain⟨⟩:=a3;dsimp only[zj1]at I|-;refine tr ?_;intros;refine fl I F ?_ ?_<;>intro I _ F;refine bx I F fun aj I af F=>?_;refine tr ?_;intros;refine fi I F ?_ ?_<;>intro I _ F;cases I;obtain rfl:=sr ho3
 try dsimp only at h
 cases h;exact fin;cases I;refine tt ?_;refine wn U F fun F=>?_;exact bk ih3 ho3 ();cases I;refine tt ?_;exact xt ho3 af3 ()
theorem zbn {l:xsn} {a:Int} {r:Bool} (h:za4 l a=some r):
  Pu prog 52 [.agg (xs3 l),.one (.int .i64 a)] (.one (.bool r)):=by
 have F:=trivial;have R:=trivial
 refine pA func52 ?_;simp only[f52];unfold za4 at h;refine fi h F ?_ ?_<;>intro h _ F;cases h;exact fin;cases h;exact fin
theorem zbt {p:xsj} {n:Int} {r:Bool} (h:za5 p n=some r):
  Pu prog 157 [.agg (xso p),.one (.int .i64 n)] (.one (.bool r)):=by
 have F:=trivial;have R:=trivial
 refine pA func157 ?_;simp only[f157];unfold za5 at h;refine bi h fun U h I=>?_;refine tr ?_;intros;refine cS (zbn I) ?_;cases h;exact fin
theorem zj7 {kind:Int} {r:Int} (h:zbb kind=some r):
  Pu prog 42 [.one (.int .i64 kind)] (.one (.int .i64 r)):=by
 have F:=trivial;have R:=trivial
 refine pA func42 ?_;simp only[f42];unfold zbb at h;refine fi h F ?_ ?_<;>intro h _ F;cases h;exact fin;refine fi h F ?_ ?_<;>intro h _ F;cases h;exact fin;refine tt ?_;refine fi h F ?_ ?_<;>intro h _ F;cases h;exact fin;refine fi h F ?_ ?_<;>intro h _ F;cases h;exact fin;cases h;exact fin
theorem zmk {kind:Int} {r:Int} (h:zds kind=some r):
  Pu prog 43 [.one (.int .i64 kind)] (.one (.int .i64 r)):=by
 have F:=trivial;have R:=trivial
 refine pA func43 ?_;simp only[f43];unfold zds at h;refine fi h F ?_ ?_<;>intro h _ F;cases h;exact fin;cases h;exact fin
theorem zgu {kind:Int} {n:Int} {r:Bool} (h:zbm kind n=some r):
  Pu prog 17 [.one (.int .i64 kind),.one (.int .i64 n)] (.one (.bool r)):=by
 have F:=trivial;have R:=trivial
 refine pA func17 ?_;simp only[f17];unfold zbm at h;refine fi h F ?_ ?_<;>intro h _ F;refine fi h F ?_ ?_<;>intro h _ F;cases h;exact fin;cases h;exact fin;refine bi h fun ab h I=>?_;refine tr ?_;intros;refine cS (zj7 I) ?_;refine fi h F ?_ ?_<;>intro h _ F;refine bi h fun ad h U=>?_;refine tr ?_;intros;refine cS (zmk U) ?_;refine fi h F ?_ ?_<;>intro h _ F;refine bi h fun ae h aa=>?_
 refine tr ?_;intros;refine cS (zmk aa) ?_;cases h;exact fin;cases h;exact fin;cases h;exact fin
theorem zjn {t:xsz} {r:Int} (h:zbz t=some r):
  Pu prog 53 [.agg (xs7 t)] (.one (.int .i64 r)):=by
 have F:=trivial;have R:=trivial
 refine pA func53 ?_;simp only[f53];unfold zbz at h;refine bi h fun U h I=>?_;refine tr ?_;intros;refine cS (zj7 I) ?_;refine fi h F ?_ ?_<;>intro h _ F;cases h;exact fin;refine tt ?_;refine fi h F ?_ ?_<;>intro h _ F;cases h;exact fin;refine fi h F ?_ ?_<;>intro h _ F;cases h;exact fin;refine tt ?_;refine fi h F ?_ ?_<;>intro h _ F;refine fi h F ?_ ?_<;>intro h _ F;refine tt ?_;refine fi h F ?_ ?_<;>intro h _ F
 cases h;exact fin;refine fi h F ?_ ?_<;>intro h _ F;cases h;exact fin;cases h;exact fin;cases h;exact fin;refine tt ?_;refine fi h F ?_ ?_<;>intro h _ F;cases h;exact fin;refine fi h F ?_ ?_<;>intro h _ F;cases h;exact fin;cases h;exact fin
theorem zo4 {p:xsj} {v:xsq} {r:Bool} (h:zd7 p v=some r):
  Pu prog 158 [.agg (xso p),.agg (xst v)] (.one (.bool r)):=by
 have F:=trivial;have R:=trivial
 refine pA func158 ?_;simp only[f158];unfold zd7 at h;refine bi h fun af h I=>?_;refine tr ?_;intros;refine cS (za0 I) ?_;refine fv h F ?_ ?_<;>intro h _ F;refine bi h fun ai h U=>?_;refine tr ?_;intros;refine cS (zjn U) ?_;refine fi h F ?_ ?_<;>intro h _ F;refine fi h F ?_ ?_<;>intro h _ F;refine tt ?_;refine fi h F ?_ ?_<;>intro h _ F;refine fi h F ?_ ?_<;>intro h _ F;refine tt ?_
 refine fi h F ?_ ?_<;>intro h _ F;cases h;exact fin;cases h;exact fin;refine bi h fun aj h aa=>?_;refine tr ?_;intros;refine cS (zbt aa) ?_;refine fv h F ?_ ?_<;>intro h _ F;refine tt ?_;refine fi h F ?_ ?_<;>intro h _ F;cases h;exact fin;cases h;exact fin;cases h;exact fin;cases h;exact fin;refine tt ?_;refine fi h F ?_ ?_<;>intro h _ F;refine fi h F ?_ ?_<;>intro h _ F;refine bi h fun ak h ab=>?_
 refine tr ?_;intros;refine cS (zbt ab) ?_;refine fv h F ?_ ?_<;>intro h _ F;cases h;exact fin;cases h;exact fin;cases h;exact fin;refine fi h F ?_ ?_<;>intro h _ F;refine bi h fun al h ad=>?_;refine tr ?_;intros;refine cS (zbt ad) ?_;refine fv h F ?_ ?_<;>intro h _ F;refine tt ?_;refine fi h F ?_ ?_<;>intro h _ F;refine bi h fun an h ae=>?_;refine tr ?_;intros;refine cS (zgu ae) ?_
 cases h;exact fin;cases h;exact fin;cases h;exact fin;cases h;exact fin;cases h;exact fin;cases h;exact fin
theorem zrw {p:xsj} {r:Bool} (h:zf0 p=some r):
  Pu prog 119 [.agg (xso p)] (.one (.bool r)):=by
 have F:=trivial;have R:=trivial
 refine pA func119 ?_;simp only[f119];unfold zf0 at h;refine tr ?_;intros;refine fi h F ?_ ?_<;>intro h _ F;cases h;exact fin;refine tr ?_;intros;refine fi h F ?_ ?_<;>intro h _ F;cases h;exact fin;refine tr ?_;intros;refine fi h F ?_ ?_<;>intro h _ F;cases h;exact fin;refine tr ?_;intros;refine fi h F ?_ ?_<;>intro h _ F;cases h;exact fin;refine tr ?_;intros;refine fi h F ?_ ?_<;>intro h _ F
 cases h;exact fin;refine tr ?_;intros;refine fi h F ?_ ?_<;>intro h _ F;cases h;exact fin;refine bi h fun a4 h aL=>?_;refine tt ?_
 refine lX aL (fun|aq,_=>⟨[(1,.one (.ref 0 0 0 0)),(3,.one (.int .i64 (aq:Int)))],[.cells 0 6 [(eP_ p)]]⟩) (fun|(.inl bH),_=>⟨[],[]⟩|(.inr ()),_=>⟨[(1,.one (.ref 0 0 0 0))],[.cells 0 6 [(eP_ p)]]⟩) (fun|(.inl _)=>none|(.inr _)=>some 0) ?_ ?_
 intro i3 b3 aK
 rcases a4 with ae|⟨⟩
 cases aK;obtain rfl:=Wab aK;obtain⟨⟩:=b3;dsimp only at h|-;refine bi h fun a5 h aM=>?_;refine tt ?_
 refine lX aM (fun|ar,_=>⟨[(1,.one (.ref 0 0 0 0)),(4,.one (.int .i64 (ar:Int)))],[.cells 0 6 [(eP_ p)]]⟩) (fun|(.inl bm),_=>⟨[],[]⟩|(.inr ()),_=>⟨[(1,.one (.ref 0 0 0 0))],[.cells 0 6 [(eP_ p)]]⟩) (fun|(.inl _)=>none|(.inr _)=>some 2) ?_ ?_
 intro i10 a6 au
 rcases a5 with ae|⟨⟩
 cases au;obtain rfl:=Wab au;obtain⟨⟩:=a6;dsimp only at h|-;refine bi h fun aN h ay=>?_;refine tt ?_
 refine lX ay (fun|ak,_=>⟨[(1,.one (.ref 0 0 0 0)),(5,.one (.int .i64 (ak:Int)))],[.cells 0 6 [(eP_ p)]]⟩) (fun|(.inl bn),_=>⟨[],[]⟩|(.inr ()),_=>⟨[(1,.one (.ref 0 0 0 0))],[.cells 0 6 [(eP_ p)]]⟩) (fun|(.inl _)=>none|(.inr _)=>some 4) ?_ ?_
 intro i17 a7 av
 rcases aN with ae|⟨⟩
 cases av;obtain rfl:=Wab av;obtain⟨⟩:=a7;dsimp only at h|-;refine bi h fun aO h az=>?_;refine tt ?_
 refine lX az (fun|al,_=>⟨[(1,.one (.ref 0 0 0 0)),(6,.one (.int .i64 (al:Int)))],[.cells 0 6 [(eP_ p)]]⟩) (fun|(.inl bo),_=>⟨[],[]⟩|(.inr ()),_=>⟨[(1,.one (.ref 0 0 0 0))],[.cells 0 6 [(eP_ p)]]⟩) (fun|(.inl _)=>none|(.inr _)=>some 6) ?_ ?_
 intro i25 a8 aw
 rcases aO with ae|⟨⟩
 cases aw;obtain rfl:=Wab aw;obtain⟨⟩:=a8;dsimp only at h|-;refine bi h fun aP h aA=>?_;refine tt ?_
 refine lX aA (fun|an,_=>⟨[(1,.one (.ref 0 0 0 0)),(7,.one (.int .i64 (an:Int)))],[.cells 0 6 [(eP_ p)]]⟩) (fun|(.inl bp),_=>⟨[],[]⟩|(.inr ()),_=>⟨[],[.cells 0 6 [(eP_ p)]]⟩) (fun|(.inl _)=>none|(.inr _)=>some 8) ?_ ?_
 intro i31 a9 ax
 rcases aP with ae|⟨⟩
 cases ax;obtain rfl:=Wab ax;obtain⟨⟩:=a9;dsimp only at h|-;cases h;exact fin;intro aQ bI an ba bJ I af aR;obtain⟨⟩:=ba;dsimp only[zgp]at I|-;refine tr ?_;intros;refine fl I F ?_ ?_<;>intro I _ F;refine bx I F fun bq I bg F=>?_;refine bi I fun br I aB=>?_;refine tr ?_;intros;refine cS (za0 aB) ?_;refine fv I F ?_ ?_<;>intro I _ F;refine bi I fun bs I aC=>?_;refine tr ?_;intros
 refine cS (zl5 aC) ?_;refine fv I F ?_ ?_<;>intro I _ F;refine bi I fun bt I aD=>?_;refine tr ?_;intros;refine cS (zbt aD) ?_;refine fv I F ?_ ?_<;>intro I _ F;cases I;refine tt ?_;refine wn an F fun F=>?_;exact bk aR af ();cases I;obtain rfl:=sr af
 try dsimp only at h
 cases h;exact fin;cases I;obtain rfl:=sr af
 try dsimp only at h
 cases h;exact fin;cases I;obtain rfl:=sr af
 try dsimp only at h
 cases h;exact fin;cases I;refine tt ?_;exact xt af aQ ();intro aS bK al bb bL ad ao aT;obtain⟨⟩:=bb;dsimp only[zgq]at ad|-;refine tr ?_;intros;refine fl ad F ?_ ?_<;>intro ad _ F;refine bx ad F fun bu ad bh F=>?_;refine bi ad fun bw ad aE=>?_;refine tr ?_;intros;refine cD (zo4 aE) ?_;refine tr ?_;intros;refine fv ad F ?_ ?_<;>intro ad _ F;cases ad;refine tt ?_;refine wn al F fun F=>?_
 exact bk aT ao ();cases ad;obtain rfl:=sr ao
 try dsimp only at h
 cases h;exact fin;cases ad;refine tt ?_;exact xt ao aS ();intro aU bM ak bc bN U ai aV;obtain⟨⟩:=bc;dsimp only[zgr]at U|-;refine tr ?_;intros;refine fl U F ?_ ?_<;>intro U _ F;refine bx U F fun bz U bj F=>?_;refine bi U fun bA U aF=>?_;refine tr ?_;intros;refine cD (za0 aF) ?_;refine tr ?_;intros;refine fv U F ?_ ?_<;>intro U _ F;refine bi U fun bB U aG=>?_;refine tr ?_;intros;refine cD (zbt aG) ?_
 refine tr ?_;intros;refine fv U F ?_ ?_<;>intro U _ F;refine bi U fun bC U aH=>?_;refine tr ?_;intros;refine cD (zbt aH) ?_;refine tr ?_;intros;refine fv U F ?_ ?_<;>intro U _ F;cases U;refine tt ?_;refine wn ak F fun F=>?_;exact bk aV ai ();cases U;obtain rfl:=sr ai
 try dsimp only at h
 cases h;exact fin;cases U;obtain rfl:=sr ai
 try dsimp only at h
 cases h;exact fin;cases U;obtain rfl:=sr ai
 try dsimp only at h
 cases h;exact fin;cases U;refine tt ?_;exact xt ai aU ();intro aW bO ar bf bP aa aj aX;obtain⟨⟩:=bf;dsimp only[zgs]at aa|-;refine tr ?_;intros;refine fl aa F ?_ ?_<;>intro aa _ F;refine bx aa F fun bD aa bl F=>?_;refine bi aa fun bE aa aI=>?_;refine tr ?_;intros;refine cD (zbt aI) ?_;refine tr ?_;intros;refine fv aa F ?_ ?_<;>intro aa _ F;refine bi aa fun bF aa aJ=>?_;refine tr ?_
 intros;refine cD (zbt aJ) ?_;refine tr ?_;intros;refine fv aa F ?_ ?_<;>intro aa _ F;cases aa;refine tt ?_;refine wn ar F fun F=>?_;exact bk aX aj ();cases aa;obtain rfl:=sr aj
 try dsimp only at h
 cases h;exact fin;cases aa;obtain rfl:=sr aj
 try dsimp only at h
 cases h;exact fin;cases aa;refine tt ?_;exact xt aj aW ();intro af3 m3 aq a3 o3 ab ho3 ih3;obtain⟨⟩:=a3;dsimp only[zgt]at ab|-;refine tr ?_;intros;refine fl ab F ?_ ?_<;>intro ab _ F;refine bx ab F fun bQ ab bG F=>?_;refine bi ab fun bR ab aY=>?_;refine tr ?_;intros;refine cD (za0 aY) ?_;refine tr ?_;intros;refine fv ab F ?_ ?_<;>intro ab _ F;refine bi ab fun bS ab aZ=>?_;refine tr ?_
 intros;refine cD (zs6 aZ) ?_;refine tr ?_;intros;refine fi ab F ?_ ?_<;>intro ab _ F;cases ab;refine tt ?_;refine wn aq F fun F=>?_;exact bk ih3 ho3 ();cases ab;obtain rfl:=sr ho3
 try dsimp only at h
 cases h;exact fin;cases ab;obtain rfl:=sr ho3
 try dsimp only at h
 cases h;exact fin;cases ab;refine tt ?_;exact xt ho3 af3 ()
theorem zte {e:xsk} {r:Bool} (h:zct e=some r):
  Pu prog 215 [.agg (xsm e)] (.one (.bool r)):=by
 have F:=trivial;have R:=trivial
 refine pA func215 ?_;simp only[f215];unfold zct at h;refine tr ?_;intros;refine fi h F ?_ ?_<;>intro h _ F;refine fi h F ?_ ?_<;>intro h _ F;refine tt ?_;refine fi h F ?_ ?_<;>intro h _ F;refine fi h F ?_ ?_<;>intro h _ F;refine tt ?_;refine fi h F ?_ ?_<;>intro h _ F;cases h;exact fin;cases h;exact fin;refine tt ?_;refine fi h F ?_ ?_<;>intro h _ F;exact(by omega:False).elim;refine tt ?_
 refine fi h F ?_ ?_<;>intro h _ F;exact(by omega:False).elim;refine fi h F ?_ ?_<;>intro h _ F;exact(by omega:False).elim;cases h;exact fin;refine fi h F ?_ ?_<;>intro h _ F;refine tt ?_;refine fi h F ?_ ?_<;>intro h _ F;refine tt ?_;refine fi h F ?_ ?_<;>intro h _ F;cases h;exact fin;cases h;exact fin;refine fi h F ?_ ?_<;>intro h _ F;exact(by omega:False).elim;refine tt ?_
 refine fi h F ?_ ?_<;>intro h _ F;exact(by omega:False).elim;cases h;exact fin;refine tt ?_;refine fi h F ?_ ?_<;>intro h _ F;refine tt ?_;refine fi h F ?_ ?_<;>intro h _ F;refine fi h F ?_ ?_<;>intro h _ F;cases h;exact fin;cases h;exact fin;cases h;exact fin;refine fi h F ?_ ?_<;>intro h _ F;refine tt ?_;refine fi h F ?_ ?_<;>intro h _ F;refine fi h F ?_ ?_<;>intro h _ F;cases h;exact fin
 cases h;exact fin;cases h;exact fin;cases h;exact fin;cases h;exact fin;refine fi h F ?_ ?_<;>intro h _ F;refine tt ?_;refine fi h F ?_ ?_<;>intro h _ F;refine fi h F ?_ ?_<;>intro h _ F;refine tt ?_;refine fi h F ?_ ?_<;>intro h _ F;refine bi h fun ad h I=>?_;refine tr ?_;intros;refine cS (za0 I) ?_;cases h;exact fin;cases h;exact fin;cases h;exact fin;refine fi h F ?_ ?_<;>intro h _ F
 refine tt ?_;refine fi h F ?_ ?_<;>intro h _ F;refine fi h F ?_ ?_<;>intro h _ F;refine tt ?_;refine fi h F ?_ ?_<;>intro h _ F;refine bi h fun ae h U=>?_;refine tr ?_;intros;refine cS (za0 U) ?_;cases h;exact fin;cases h;exact fin;cases h;exact fin;cases h;exact fin;refine tt ?_;refine fi h F ?_ ?_<;>intro h _ F;refine fi h F ?_ ?_<;>intro h _ F;refine tt ?_;refine fi h F ?_ ?_<;>intro h _ F
 refine bi h fun af h aa=>?_;refine tr ?_;intros;refine cS (za0 aa) ?_;cases h;exact fin;cases h;exact fin;cases h;exact fin;refine fi h F ?_ ?_<;>intro h _ F;refine tt ?_;refine fi h F ?_ ?_<;>intro h _ F;refine fi h F ?_ ?_<;>intro h _ F;refine bi h fun ai h ab=>?_;refine tr ?_;intros;refine cS (za0 ab) ?_;cases h;exact fin;cases h;exact fin;cases h;exact fin;refine tt ?_;refine fi h F ?_ ?_<;>intro h _ F
 refine fi h F ?_ ?_<;>intro h _ F;refine tt ?_;refine fi h F ?_ ?_<;>intro h _ F;cases h;exact fin;cases h;exact fin;cases h;exact fin;refine fi h F ?_ ?_<;>intro h _ F;refine tt ?_;refine fi h F ?_ ?_<;>intro h _ F;refine fi h F ?_ ?_<;>intro h _ F;cases h;exact fin;cases h;exact fin;cases h;exact fin;refine tt ?_;refine fi h F ?_ ?_<;>intro h _ F;refine fi h F ?_ ?_<;>intro h _ F
 refine tt ?_;refine fi h F ?_ ?_<;>intro h _ F;refine fi h F ?_ ?_<;>intro h _ F;cases h;exact fin;cases h;exact fin;cases h;exact fin;cases h;exact fin;cases h;exact fin;cases h;exact fin
theorem zpx {I:xsk->Int->Int->Option Int} {e:xsk} {deep:Int} {left:Int} {r:Int}
  (U:∀(x0:xsk) (x1:Int) (x2:Int) (r:Int),I x0 x1 x2=some r->Pu prog 213 [.agg (xsm x0),.one (.int .i64 x1),.one (.int .i64 x2)] (.one (.int .i64 r))) (h:zeu I e deep left=some r):
  Pu prog 213 [.agg (xsm e),.one (.int .i64 deep),.one (.int .i64 left)] (.one (.int .i64 r)):=by
 have F:=trivial;have R:=trivial
 refine pA func213 ?_;simp only[f213];unfold zeu at h;refine fi h F ?_ ?_<;>intro h _ F;cases h;exact fin;refine tt ?_;refine fi h F ?_ ?_<;>intro h _ F;cases h;exact fin;refine bi h fun ar h aj=>?_;refine tr ?_;intros;refine cS (zte aj) ?_;refine fv h F ?_ ?_<;>intro h _ F;refine bi h fun af h ak=>?_;refine tt ?_
 refine lX ak (fun|(ab,ad),_=>⟨[(1,.one (.int .i64 deep)),(2,.one (.int .i64 ab)),(3,.one (.ref 0 0 0 0)),(7,.one (.int .i64 (ad:Int)))],[.cells 0 5 [[.int .i64 e.Op,.int .i64 e.N,.int .i64 e.Kind,.str e.Name,.sl (e.Args.map xsm)]]]⟩) (fun|af,_=>⟨[(2,.one (.int .i64 af))],[.cells 0 5 [[.int .i64 e.Op,.int .i64 e.N,.int .i64 e.Kind,.str e.Name,.sl (e.Args.map xsm)]]]⟩) (fun _=>some 0) ?_ ?_
 intro i5 b5 an;obtain rfl:=Wab an;obtain⟨⟩:=b5;dsimp only at h|-;cases h;exact fin;intro ai m5 s5 a5 o5 aa ae ao;obtain⟨ab,ad⟩:=s5;obtain⟨⟩:=a5;dsimp only[zjk]at aa|-;refine tr ?_;intros;refine fl aa F ?_ ?_<;>intro aa _ F;refine fi aa F ?_ ?_<;>intro aa _ F;refine bx aa F fun au aa aq F=>?_;refine bi aa fun av aa al=>?_;refine tr ?_;intros;refine cS (U _ _ _ _ al) ?_;cases aa
 refine tt ?_;refine wn ad F fun F=>?_;exact bk ao ae ();cases aa;refine tt ?_;exact xt ae ai ();cases aa;refine tt ?_;exact xt ae ai ();cases h;exact fin
theorem zpw (n:Nat):(∀(I:xsk) (U:Int) (x2:Int) (r:Int),(zde n) I U x2=some r->Pu prog 213 [.agg (xsm I),.one (.int .i64 U),.one (.int .i64 x2)] (.one (.int .i64 r))):=by
 induction n with
 |zero=>exact fun _ _ _ r h=>(by cases h)
 |succ n ih=>
  have aa:=ih
  exact fun _ _ _ r h=>zpx aa h
theorem zr0 {e:xsk} {deep:Int} {left:Int} {r:Int} (h:zkz e deep left=some r):Pu prog 213 [.agg (xsm e),.one (.int .i64 deep),.one (.int .i64 left)] (.one (.int .i64 r)):=(zpw 1000000) _ _ _ _ h
theorem za2 {n:Int} {r:Str} (h:zaw n=some r):
  Pu prog 191 [.one (.int .i64 n)] (.one (.str r)):=by
 have F:=trivial;have R:=trivial
 refine pA func191 ?_;simp only[f191];unfold zaw at h;refine bi h fun ai h af=>?_;refine tt ?_
 refine lX af (fun|(U,aa),_=>⟨[(0,.one (.int .i64 U)),(3,.one (.str aa))],[]⟩) (fun|(ab,ad),_=>⟨[(0,.one (.int .i64 ab)),(3,.one (.str ad))],[]⟩) (fun _=>some 0) ?_ ?_
 intro i4 b4 aj;obtain rfl:=Wab aj;obtain⟨ab,ad⟩:=ai;obtain⟨⟩:=b4;dsimp only at h|-;refine nd h F fun h F=>?_;refine nd h F fun h F=>?_;cases h;exact fin;intro ak m4 s4 a4 o4 I ae al;obtain⟨U,aa⟩:=s4;obtain⟨⟩:=a4;dsimp only[ziu]at I|-;refine fi I F ?_ ?_<;>intro I _ F;refine nd I F fun I F=>?_;refine nd I F fun I F=>?_;cases I;refine tr ?_;intros;exact bk al ae ();cases I
 refine tt ?_;exact xt ae ak ()
theorem zjj {op:Int} {r:Int} (h:zc6 op=some r):
  Pu prog 217 [.one (.int .i64 op)] (.one (.int .i64 r)):=by
 have F:=trivial;have R:=trivial
 refine pA func217 ?_;simp only[f217];unfold zc6 at h;refine fi h F ?_ ?_<;>intro h _ F;cases h;exact fin;refine tt ?_;refine fi h F ?_ ?_<;>intro h _ F;cases h;exact fin;refine fi h F ?_ ?_<;>intro h _ F;cases h;exact fin;refine fi h F ?_ ?_<;>intro h _ F;refine tt ?_;refine fi h F ?_ ?_<;>intro h _ F;cases h;exact fin;refine fi h F ?_ ?_<;>intro h _ F;cases h;exact fin;refine tt ?_
 refine fi h F ?_ ?_<;>intro h _ F;cases h;exact fin;refine fi h F ?_ ?_<;>intro h _ F;refine tt ?_;refine fi h F ?_ ?_<;>intro h _ F;cases h;exact fin;refine fi h F ?_ ?_<;>intro h _ F;cases h;exact fin;refine tt ?_;refine fi h F ?_ ?_<;>intro h _ F;cases h;exact fin;cases h;exact fin;refine tt ?_;refine fi h F ?_ ?_<;>intro h _ F;cases h;exact fin;refine fi h F ?_ ?_<;>intro h _ F
 cases h;exact fin;cases h;exact fin;refine tt ?_;refine fi h F ?_ ?_<;>intro h _ F;cases h;exact fin;refine fi h F ?_ ?_<;>intro h _ F;cases h;exact fin;refine tt ?_;refine fi h F ?_ ?_<;>intro h _ F;refine fi h F ?_ ?_<;>intro h _ F;cases h;exact fin;refine tt ?_;refine fi h F ?_ ?_<;>intro h _ F;cases h;exact fin;refine fi h F ?_ ?_<;>intro h _ F;cases h;exact fin;cases h;exact fin
 refine fi h F ?_ ?_<;>intro h _ F;cases h;exact fin;refine tt ?_;refine fi h F ?_ ?_<;>intro h _ F;cases h;exact fin;cases h;exact fin
theorem zrz {level:Int} {r:Str×Int} (h:zf2 level=some r):
  Pu prog 219 [.one (.int .i64 level)] (.tup [.one (.str r.1),.one (.int .i64 r.2)]):=by
 have F:=trivial;have R:=trivial
 refine pA func219 ?_;simp only[f219];unfold zf2 at h;refine fi h F ?_ ?_<;>intro h _ F;cases h;exact fin;refine tt ?_;refine fi h F ?_ ?_<;>intro h _ F;cases h;exact fin;refine fi h F ?_ ?_<;>intro h _ F;cases h;exact fin;refine fi h F ?_ ?_<;>intro h _ F;cases h;exact fin;refine fi h F ?_ ?_<;>intro h _ F;cases h;exact fin;cases h;exact fin
theorem ztd {op:Int} {r:Str} (h:zhf op=some r):
  Pu prog 218 [.one (.int .i64 op)] (.one (.str r)):=by
 have F:=trivial;have R:=trivial
 refine pA func218 ?_;simp only[f218];unfold zhf at h;refine bi h fun av h ai=>?_;refine tr ?_;intros;refine cS (zjj ai) ?_;refine bi h fun al h aj=>?_;refine tr ?_;intros;refine cS (zrz aj) ?_;refine bi h fun an h ak=>?_;refine tt ?_
 refine lX ak (fun|(ae,aa,ab),_=>⟨[(0,.one (.int .i64 op)),(3,.one (.str al.1)),(5,.one (.int .i64 ae)),(6,.one (.int .i64 aa)),(7,.one (.int .i64 (ab:Int)))],[]⟩) (fun|(.inl ar),_=>⟨[],[]⟩|(.inr ()),_=>⟨[],[]⟩) (fun|(.inl _)=>none|(.inr _)=>some 0) ?_ ?_
 intro i7 b7 af
 rcases an with ao|⟨⟩
 cases af;obtain rfl:=Wab af;obtain⟨⟩:=b7;dsimp only at h|-;cases h;exact fin;intro aq m7 s7 a7 o7 I U ad;obtain⟨ae,aa,ab⟩:=s7;obtain⟨⟩:=a7;dsimp only[zj6]at I|-;refine tr ?_;intros;refine fm I F ?_ ?_<;>intro I _ F;refine tr ?_;intros;refine fi I F ?_ ?_<;>intro I _ F;refine fi I F ?_ ?_<;>intro I _ F;refine nd I F fun I F=>?_;cases I;obtain rfl:=sr U
 try dsimp only at h
 cases h;exact fin;cases I;refine tt ?_;refine wn ab F fun F=>?_;exact bk ad U ();refine bx I F fun aw I au F=>?_;refine tr ?_;intros;refine fi I F ?_ ?_<;>intro I _ F;refine fi I F ?_ ?_<;>intro I _ F;refine nd I F fun I F=>?_;cases I;obtain rfl:=sr U
 try dsimp only at h
 cases h;exact fin;cases I;refine tt ?_;refine wn ab F fun F=>?_;exact bk ad U ();cases I;refine tt ?_;refine wn ab F fun F=>?_;exact bk ad U ();cases I;refine tt ?_;exact xt U aq ()
theorem zqs {aa:xsk->Option Str} {ab:xsk->Int->Option Str} {e:xsk} {r:Str}
  (U:∀(x0:xsk) (r:Str),aa x0=some r->Pu prog 214 [.agg (xsm x0)] (.one (.str r)))
  (I:∀(x0:xsk) (x1:Int) (r:Str),ab x0 x1=some r->Pu prog 216 [.agg (xsm x0),.one (.int .i64 x1)] (.one (.str r))) (h:zfi aa ab e=some r):
  Pu prog 214 [.agg (xsm e)] (.one (.str r)):=by
 have F:=trivial;have R:=trivial
 refine pA func214 ?_;simp only[f214];unfold zfi at h;refine fi h F ?_ ?_<;>intro h _ F;refine tt ?_;refine fi h F ?_ ?_<;>intro h _ F;refine fi h F ?_ ?_<;>intro h _ F;cases h;exact fin;cases h;exact fin;refine fi h F ?_ ?_<;>intro h _ F;refine bi h fun aP h ao=>?_;refine tr ?_;intros;refine cS (za2 ao) ?_;refine nd h F fun h F=>?_;refine nd h F fun h F=>?_;cases h;exact fin;refine fi h F ?_ ?_<;>intro h _ F
 refine bi h fun aQ h aq=>?_;refine tr ?_;intros;refine cS (za2 aq) ?_;refine nd h F fun h F=>?_;refine nd h F fun h F=>?_;cases h;exact fin;refine bi h fun aR h ar=>?_;refine tr ?_;intros;refine cS (za2 ar) ?_;cases h;exact fin;refine tt ?_;refine fi h F ?_ ?_<;>intro h _ F;cases h;exact fin;refine fi h F ?_ ?_<;>intro h _ F;refine nd h F fun h F=>?_;refine bi h fun aS h au=>?_
 refine tr ?_;intros;refine cD (za2 au) ?_;refine nd h F fun h F=>?_;cases h;exact fin;refine fi h F ?_ ?_<;>intro h _ F;refine nd h F fun h F=>?_;refine bx h F fun aB h av F=>?_;refine bi h fun aC h ad=>?_;refine tr ?_;intros;refine cD (U _ _ ad) ?_;refine nd h F fun h F=>?_;refine nd h F fun h F=>?_;cases h;exact fin;refine fi h F ?_ ?_<;>intro h _ F;refine nd h F fun h F=>?_
 refine nd h F fun h F=>?_;refine bx h F fun aD h aw F=>?_;refine bi h fun aE h ae=>?_;refine tr ?_;intros;refine cD (U _ _ ae) ?_;refine nd h F fun h F=>?_;refine nd h F fun h F=>?_;cases h;exact fin;refine tt ?_;refine fi h F ?_ ?_<;>intro h _ F;refine bx h F fun aF h ax F=>?_;refine bi h fun aG h af=>?_;refine tr ?_;intros;refine cS (I _ _ _ af) ?_;refine nd h F fun h F=>?_;cases h;exact fin
 refine fi h F ?_ ?_<;>intro h _ F;refine bx h F fun aH h ay F=>?_;refine bi h fun aI h ai=>?_;refine tr ?_;intros;refine cS (I _ _ _ ai) ?_;refine nd h F fun h F=>?_;cases h;exact fin;refine bi h fun aJ h aj=>?_;refine tr ?_;intros;refine cS (zjj aj) ?_;refine bx h F fun aK h az F=>?_;refine bi h fun aL h ak=>?_;refine tr ?_;intros;refine cD (I _ _ _ ak) ?_;refine nd h F fun h F=>?_
 refine bi h fun aM h al=>?_;refine tr ?_;intros;refine cD (ztd al) ?_;refine nd h F fun h F=>?_;refine nd h F fun h F=>?_;refine bx h F fun aN h aA F=>?_;refine bi h fun aO h an=>?_;refine tr ?_;intros;refine cD (I _ _ _ an) ?_;refine nd h F fun h F=>?_;cases h;exact fin
theorem zqt {U:xsk->Option Str} {aa:xsk->Int->Option Str} {e:xsk} {least:Int} {r:Str}
  (I:∀(x0:xsk) (r:Str),U x0=some r->Pu prog 214 [.agg (xsm x0)] (.one (.str r)))
  (ab:∀(x0:xsk) (x1:Int) (r:Str),aa x0 x1=some r->Pu prog 216 [.agg (xsm x0),.one (.int .i64 x1)] (.one (.str r))) (h:zfj U aa e least=some r):
  Pu prog 216 [.agg (xsm e),.one (.int .i64 least)] (.one (.str r)):=by
 have F:=trivial;have R:=trivial
 refine pA func216 ?_;simp only[f216];unfold zfj at h;refine bi h fun ai h ad=>?_;refine tr ?_;intros;refine cS (zjj ad) ?_;refine fi h F ?_ ?_<;>intro h _ F;refine bi h fun aj h ae=>?_;refine tr ?_;intros;refine cS (I _ _ ae) ?_;refine nd h F fun h F=>?_;refine nd h F fun h F=>?_;cases h;exact fin;refine bi h fun ak h af=>?_;refine tr ?_;intros;refine cS (I _ _ af) ?_;cases h;exact fin
theorem zqr (n:Nat):(∀(I:xsk) (r:Str),(zay n).1 I=some r->Pu prog 214 [.agg (xsm I)] (.one (.str r)))/\(∀(I:xsk) (x1:Int) (r:Str),(zay n).2 I x1=some r->Pu prog 216 [.agg (xsm I),.one (.int .i64 x1)] (.one (.str r))):=by
 induction n with
 |zero=>exact⟨fun _ r h=>(by cases h),fun _ _ r h=>(by cases h)⟩
 |succ n ih=>
  obtain⟨U,ih1⟩:=ih;exact⟨fun _ r h=>zqs U ih1 h,fun _ _ r h=>zqt U ih1 h⟩
theorem zmj {e:xsk} {r:Str} (h:zhe e=some r):Pu prog 214 [.agg (xsm e)] (.one (.str r)):=(zqr 1000000).1 _ _ h
theorem zbf {e:xsk} {r:Bool} (h:zar e=some r):
  Pu prog 208 [.agg (xsm e)] (.one (.bool r)):=by
 have F:=trivial;have R:=trivial
 refine pA func208 ?_;simp only[f208];unfold zar at h;refine bi h fun aa h I=>?_;refine tr ?_;intros;refine cS (zr0 I) ?_;refine fi h F ?_ ?_<;>intro h _ F;refine bi h fun ab h U=>?_;refine tr ?_;intros;refine cS (zmj U) ?_;cases h;exact fin;cases h;exact fin
theorem zqo {e:xsk} {r:Bool} (h:zff e=some r):
  Pu prog 207 [.agg (xsm e)] (.one (.bool r)):=by
 have F:=trivial;have R:=trivial
 refine pA func207 ?_;simp only[f207];unfold zff at h;refine fi h F ?_ ?_<;>intro h _ F;refine bi h fun ad h I=>?_;refine tr ?_;intros;refine cS (zbf I) ?_;cases h;exact fin;refine tt ?_;refine fi h F ?_ ?_<;>intro h _ F;refine tr ?_;intros;refine fi h F ?_ ?_<;>intro h _ F;refine fi h F ?_ ?_<;>intro h _ F;refine tt ?_;refine fi h F ?_ ?_<;>intro h _ F;refine bi h fun ae h U=>?_;refine tr ?_
 intros;refine cS (za0 U) ?_;refine fv h F ?_ ?_<;>intro h _ F;refine bx h F fun af h ab F=>?_;refine bi h fun ai h aa=>?_;refine tr ?_;intros;refine cS (zbf aa) ?_;cases h;exact fin;cases h;exact fin;cases h;exact fin;cases h;exact fin;cases h;exact fin;cases h;exact fin
theorem zqv {I:xsk->xsk->Option Bool} {a:xsk} {b:xsk} {r:Bool}
  (U:∀(x0:xsk) (x1:xsk) (r:Bool),I x0 x1=some r->Pu prog 163 [.agg (xsm x0),.agg (xsm x1)] (.one (.bool r))) (h:zcu I a b=some r):
  Pu prog 163 [.agg (xsm a),.agg (xsm b)] (.one (.bool r)):=by
 have F:=trivial;have R:=trivial
 refine pA func163 ?_;simp only[f163];unfold zcu at h;refine tt ?_;refine fi h F ?_ ?_<;>intro h _ F;refine tt ?_;refine fi h F ?_ ?_<;>intro h _ F;refine tt ?_;refine fi h F ?_ ?_<;>intro h _ F;refine tt ?_;refine fi h F ?_ ?_<;>intro h _ F;refine tr ?_;intros;refine fi h F ?_ ?_<;>intro h _ F;refine bi h fun ai h ae=>?_;refine tt ?_
 refine lX ae (fun|ab,_=>⟨[(2,.one (.ref 0 0 0 0)),(3,.one (.ref 1 0 0 0)),(5,.one (.int .i64 (ab:Int)))],[.cells 0 5 [[.int .i64 a.Op,.int .i64 a.N,.int .i64 a.Kind,.str a.Name,.sl (a.Args.map xsm)]],.cells 0 5 [[.int .i64 b.Op,.int .i64 b.N,.int .i64 b.Kind,.str b.Name,.sl (b.Args.map xsm)]]]⟩) (fun|(.inl an),_=>⟨[],[]⟩|(.inr ()),_=>⟨[],[.cells 0 5 [[.int .i64 a.Op,.int .i64 a.N,.int .i64 a.Kind,.str a.Name,.sl (a.Args.map xsm)]],.cells 0 5 [[.int .i64 b.Op,.int .i64 b.N,.int .i64 b.Kind,.str b.Name,.sl (b.Args.map xsm)]]]⟩) (fun|(.inl _)=>none|(.inr _)=>some 0) ?_ ?_
 intro i3 b3 ad
 rcases ai with aj|⟨⟩
 cases ad;obtain rfl:=Wab ad;obtain⟨⟩:=b3;dsimp only at h|-;cases h;exact fin;intro af3 m3 ab a3 o3 aa ho3 ih3;obtain⟨⟩:=a3;dsimp only[zev]at aa|-;refine tr ?_;intros;refine fl aa F ?_ ?_<;>intro aa _ F;refine bx aa F fun ao aa ak F=>?_;refine bx aa F fun aq aa al F=>?_;refine bi aa fun ar aa af=>?_;refine tr ?_;intros;refine cD (U _ _ _ af) ?_;refine tr ?_;intros;refine fv aa F ?_ ?_<;>intro aa _ F
 cases aa;refine tt ?_;refine wn ab F fun F=>?_;exact bk ih3 ho3 ();cases aa;obtain rfl:=sr ho3
 try dsimp only at h
 cases h;exact fin;cases aa;refine tt ?_;exact xt ho3 af3 ();cases h;exact fin;cases h;exact fin;cases h;exact fin;cases h;exact fin;cases h;exact fin
theorem zqu (n:Nat):(∀(I:xsk) (U:xsk) (r:Bool),(zdv n) I U=some r->Pu prog 163 [.agg (xsm I),.agg (xsm U)] (.one (.bool r))):=by
 induction n with
 |zero=>exact fun _ _ r h=>(by cases h)
 |succ n ih=>
  have aa:=ih
  exact fun _ _ r h=>zqv aa h
theorem zh1 {a:xsk} {b:xsk} {r:Bool} (h:zdr a b=some r):Pu prog 163 [.agg (xsm a),.agg (xsm b)] (.one (.bool r)):=(zqu 1000000) _ _ _ h
theorem zba {e:xsk} {r:Bool} (h:zau e=some r):
  Pu prog 209 [.agg (xsm e)] (.one (.bool r)):=by
 have F:=trivial;have R:=trivial
 refine pA func209 ?_;simp only[f209];unfold zau at h;refine bi h fun U h I=>?_;refine tr ?_;intros;refine cS (zh1 I) ?_;cases h;exact fin
theorem zj4 {l:List xsk} {r:Bool} (h:zcs l=some r):
  Pu prog 210 [.one (.sl (l.map xsm))] (.one (.bool r)):=by
 have F:=trivial;have R:=trivial
 refine pA func210 ?_;simp only[f210];unfold zcs at h;refine bi h fun ae h ab=>?_;refine tt ?_
 refine lX ab (fun|U,_=>⟨[(0,.one (.sl (l.map xsm))),(3,.one (.int .i64 (U:Int)))],[]⟩) (fun|(.inl aj),_=>⟨[],[]⟩|(.inr ()),_=>⟨[],[]⟩) (fun|(.inl _)=>none|(.inr _)=>some 0) ?_ ?_
 intro i3 b3 aa
 rcases ae with af|⟨⟩
 cases aa;obtain rfl:=Wab aa;obtain⟨⟩:=b3;dsimp only at h|-;cases h;exact fin;intro af3 m3 U a3 o3 I ho3 ih3;obtain⟨⟩:=a3;dsimp only[zj5]at I|-;refine tr ?_;intros;refine fl I F ?_ ?_<;>intro I _ F;refine bx I F fun ak I ai F=>?_;refine bi I fun al I ad=>?_;refine tr ?_;intros;refine cS (zbf ad) ?_;refine fv I F ?_ ?_<;>intro I _ F;cases I;refine tt ?_;refine wn U F fun F=>?_
 exact bk ih3 ho3 ();cases I;obtain rfl:=sr ho3
 try dsimp only at h
 cases h;exact fin;cases I;refine tt ?_;exact xt ho3 af3 ()
theorem zmi {s:xsl} {r:Bool} (h:zcr s=some r):
  Pu prog 200 [.agg (xsp s)] (.one (.bool r)):=by
 have F:=trivial;have R:=trivial
 refine pA func200 ?_;simp only[f200];unfold zcr at h;refine tr ?_;intros;refine fi h F ?_ ?_<;>intro h _ F;refine tr ?_;intros;refine fi h F ?_ ?_<;>intro h _ F;refine fi h F ?_ ?_<;>intro h _ F;refine tt ?_;refine fi h F ?_ ?_<;>intro h _ F;refine tr ?_;intros;refine fi h F ?_ ?_<;>intro h _ F;refine bi h fun aO h aq=>?_;refine tr ?_;intros;refine cS (zqo aq) ?_;refine fv h F ?_ ?_<;>intro h _ F
 refine bi h fun aP h ar=>?_;refine tr ?_;intros;refine cS (zbf ar) ?_;cases h;exact fin;cases h;exact fin;cases h;exact fin;cases h;exact fin;cases h;exact fin;refine fi h F ?_ ?_<;>intro h _ F;refine fi h F ?_ ?_<;>intro h _ F;refine tr ?_;intros;refine fi h F ?_ ?_<;>intro h _ F;refine bi h fun aQ h au=>?_;refine tr ?_;intros;refine cS (zba au) ?_;refine fv h F ?_ ?_<;>intro h _ F
 refine bi h fun aR h av=>?_;refine tr ?_;intros;refine cS (zbf av) ?_;cases h;exact fin;cases h;exact fin;cases h;exact fin;cases h;exact fin;refine fi h F ?_ ?_<;>intro h _ F;refine tt ?_;refine fi h F ?_ ?_<;>intro h _ F;refine tr ?_;intros;refine fi h F ?_ ?_<;>intro h _ F;refine tr ?_;intros;refine fi h F ?_ ?_<;>intro h _ F;refine bi h fun aS h aw=>?_;refine tr ?_;intros;refine cS (zba aw) ?_
 refine fv h F ?_ ?_<;>intro h _ F;refine bi h fun aT h ax=>?_;refine tr ?_;intros;refine cS (zbf ax) ?_;cases h;exact fin;cases h;exact fin;cases h;exact fin;cases h;exact fin;cases h;exact fin;refine fi h F ?_ ?_<;>intro h _ F;refine bi h fun aU h ay=>?_;refine tr ?_;intros;refine cS (za0 ay) ?_;refine fv h F ?_ ?_<;>intro h _ F;refine tr ?_;intros;refine fi h F ?_ ?_<;>intro h _ F
 refine bi h fun aV h az=>?_;refine tr ?_;intros;refine cS (zj4 az) ?_;refine fv h F ?_ ?_<;>intro h _ F;refine tr ?_;intros;refine fi h F ?_ ?_<;>intro h _ F;refine bi h fun aW h aA=>?_;refine tr ?_;intros;refine cS (zba aA) ?_;refine fv h F ?_ ?_<;>intro h _ F;refine bi h fun aB h I=>?_;refine tr ?_;intros;refine cS (zba I) ?_;cases h;exact fin;cases h;exact fin;cases h;exact fin
 cases h;exact fin;cases h;exact fin;cases h;exact fin;refine tt ?_;refine fi h F ?_ ?_<;>intro h _ F;refine fi h F ?_ ?_<;>intro h _ F;refine bi h fun aC h U=>?_;refine tr ?_;intros;refine cS (za0 U) ?_;refine fv h F ?_ ?_<;>intro h _ F;refine bi h fun aD h aa=>?_;refine tr ?_;intros;refine cS (zba aa) ?_;refine fv h F ?_ ?_<;>intro h _ F;refine bi h fun aE h ab=>?_;refine tr ?_
 intros;refine cS (zba ab) ?_;refine fv h F ?_ ?_<;>intro h _ F;refine tr ?_;intros;refine fi h F ?_ ?_<;>intro h _ F;refine bi h fun aF h ad=>?_;refine tr ?_;intros;refine cS (zj4 ad) ?_;cases h;exact fin;cases h;exact fin;cases h;exact fin;cases h;exact fin;cases h;exact fin;cases h;exact fin;cases h;exact fin;refine fi h F ?_ ?_<;>intro h _ F;cases h;exact fin;refine tt ?_;refine fi h F ?_ ?_<;>intro h _ F
 refine fi h F ?_ ?_<;>intro h _ F;refine tr ?_;intros;refine fi h F ?_ ?_<;>intro h _ F;refine bi h fun aG h ae=>?_;refine tr ?_;intros;refine cS (zba ae) ?_;refine fv h F ?_ ?_<;>intro h _ F;refine bi h fun aH h af=>?_;refine tr ?_;intros;refine cS (zbf af) ?_;cases h;exact fin;cases h;exact fin;cases h;exact fin;cases h;exact fin;refine fi h F ?_ ?_<;>intro h _ F;refine fi h F ?_ ?_<;>intro h _ F
 refine tr ?_;intros;refine fi h F ?_ ?_<;>intro h _ F;refine tr ?_;intros;refine fi h F ?_ ?_<;>intro h _ F;refine bi h fun aI h ai=>?_;refine tr ?_;intros;refine cS (zba ai) ?_;refine fv h F ?_ ?_<;>intro h _ F;refine bi h fun aJ h aj=>?_;refine tr ?_;intros;refine cS (zbf aj) ?_;cases h;exact fin;cases h;exact fin;cases h;exact fin;cases h;exact fin;cases h;exact fin;refine fi h F ?_ ?_<;>intro h _ F
 refine bi h fun aK h ak=>?_;refine tr ?_;intros;refine cS (za0 ak) ?_;refine fv h F ?_ ?_<;>intro h _ F;refine tr ?_;intros;refine fi h F ?_ ?_<;>intro h _ F;refine bi h fun aL h al=>?_;refine tr ?_;intros;refine cS (zj4 al) ?_;refine fv h F ?_ ?_<;>intro h _ F;refine tr ?_;intros;refine fi h F ?_ ?_<;>intro h _ F;refine bi h fun aM h an=>?_;refine tr ?_;intros;refine cS (zba an) ?_
 refine fv h F ?_ ?_<;>intro h _ F;refine bi h fun aN h ao=>?_;refine tr ?_;intros;refine cS (zba ao) ?_;cases h;exact fin;cases h;exact fin;cases h;exact fin;cases h;exact fin;cases h;exact fin;cases h;exact fin;refine fi h F ?_ ?_<;>intro h _ F;cases h;exact fin;cases h;exact fin
theorem zbe {e:xsk} {r:Str} (h:za1 e=some r):
  Pu prog 211 [.agg (xsm e)] (.one (.str r)):=by
 have F:=trivial;have R:=trivial
 refine pA func211 ?_;simp only[f211];unfold za1 at h;refine bi h fun aa h I=>?_;refine tr ?_;intros;refine cS (zbf I) ?_;refine fv h F ?_ ?_<;>intro h _ F;refine bi h fun ab h U=>?_;refine tr ?_;intros;refine cS (zmj U) ?_;cases h;exact fin;cases h;exact fin
theorem zrx {e:xsk} {r:Str} (h:zf1 e=some r):
  Pu prog 212 [.agg (xsm e)] (.one (.str r)):=by
 have F:=trivial;have R:=trivial
 refine pA func212 ?_;simp only[f212];unfold zf1 at h;refine fi h F ?_ ?_<;>intro h _ F;refine bx h F fun aa h U F=>?_;refine bi h fun ab h I=>?_;refine tr ?_;intros;refine cS (zbe I) ?_;refine nd h F fun h F=>?_;refine nd h F fun h F=>?_;cases h;exact fin;cases h;exact fin
theorem zhz {s:xsl} {r:Str} (h:zcq s=some r):
  Pu prog 201 [.agg (xsp s)] (.one (.str r)):=by
 have F:=trivial;have R:=trivial
 refine pA func201 ?_;simp only[f201];unfold zcq at h;refine fi h F ?_ ?_<;>intro h _ F;refine bi h fun aN h ao=>?_;refine tr ?_;intros;refine cD (zbe ao) ?_;refine bi h fun aO h aq=>?_;refine tr ?_;intros;refine cD (zrx aq) ?_;refine nd h F fun h F=>?_;refine nd h F fun h F=>?_;refine bi h fun aP h ar=>?_;refine tr ?_;intros;refine cD (zbe ar) ?_;refine nd h F fun h F=>?_;refine nd h F fun h F=>?_
 cases h;exact fin;refine tt ?_;refine fi h F ?_ ?_<;>intro h _ F;refine bi h fun aQ h au=>?_;refine tr ?_;intros;refine cS (zbe au) ?_;refine nd h F fun h F=>?_;refine nd h F fun h F=>?_;cases h;exact fin;refine fi h F ?_ ?_<;>intro h _ F;refine bi h fun aE h af=>?_;refine tr ?_;intros;refine cS (zbe af) ?_;refine nd h F fun h F=>?_;refine nd h F fun h F=>?_;cases h;exact fin;refine fi h F ?_ ?_<;>intro h _ F
 refine nd h F fun h F=>?_;refine nd h F fun h F=>?_;refine bx h F fun aF h aA F=>?_;refine bi h fun aG h ai=>?_;refine tr ?_;intros;refine cD (zbe ai) ?_;refine nd h F fun h F=>?_;refine nd h F fun h F=>?_;refine bx h F fun aH h aB F=>?_;refine bi h fun aI h aj=>?_;refine tr ?_;intros;refine cD (zbe aj) ?_;refine nd h F fun h F=>?_;refine nd h F fun h F=>?_;cases h;exact fin
 refine nd h F fun h F=>?_;refine bi h fun ab h ak=>?_;refine tr ?_;intros
 refine lX ak (fun|(ad,U),_=>⟨[(1,.one (.ref 0 0 0 0)),(3,.one (.str ad)),(4,.one (.int .i64 (U:Int)))],[.cells 0 15 [[.int .i64 s.Kind,.str s.Name,.int .i64 s.Target.Op,.int .i64 s.Target.N,.int .i64 s.Target.Kind,.str s.Target.Name,.sl (s.Target.Args.map xsm),.int .i64 s.Value.Op,.int .i64 s.Value.N,.int .i64 s.Value.Kind,.str s.Value.Name,.sl (s.Value.Args.map xsm),.sl (s.Args.map xsm),.sl (s.Body.map xsp),.sl (s.Else.map xsp)]]]⟩) (fun|ab,_=>⟨[(3,.one (.str ab))],[.cells 0 15 [[.int .i64 s.Kind,.str s.Name,.int .i64 s.Target.Op,.int .i64 s.Target.N,.int .i64 s.Target.Kind,.str s.Target.Name,.sl (s.Target.Args.map xsm),.int .i64 s.Value.Op,.int .i64 s.Value.N,.int .i64 s.Value.Kind,.str s.Value.Name,.sl (s.Value.Args.map xsm),.sl (s.Args.map xsm),.sl (s.Body.map xsp),.sl (s.Else.map xsp)]]]⟩) (fun _=>some 1) ?_ ?_
 intro i28 ax av;obtain rfl:=Wab av;obtain⟨⟩:=ax;dsimp only at h|-;refine nd h F fun h F=>?_;cases h;exact fin;intro aw aR ay az aS I aa ae;obtain⟨ad,U⟩:=ay;obtain⟨⟩:=az;dsimp only[zj3]at I|-;refine tr ?_;intros;refine fl I F ?_ ?_<;>intro I _ F;refine fi I F ?_ ?_<;>intro I _ F;refine nd I F fun I F=>?_;refine bx I F fun aJ I aC F=>?_;refine bi I fun aK I al=>?_;refine tr ?_
 intros;refine cS (zbe al) ?_;refine nd I F fun I F=>?_;cases I;refine tr ?_;intros;refine wn U F fun F=>?_;exact bk ae aa ();refine bx I F fun aL I aD F=>?_;refine bi I fun aM I an=>?_;refine tr ?_;intros;refine cS (zbe an) ?_;refine nd I F fun I F=>?_;cases I;refine tr ?_;intros;refine wn U F fun F=>?_;exact bk ae aa ();cases I;refine tt ?_;exact xt aa aw ()
theorem zpv {ab:(List xsl)->Int->Int->Option Int} {l:List xsl} {deep:Int} {left:Int} {r:Int}
  (I:∀(x0:List xsl) (x1:Int) (x2:Int) (r:Int),ab x0 x1 x2=some r->Pu prog 188 [.one (.sl (x0.map xsp)),.one (.int .i64 x1),.one (.int .i64 x2)] (.one (.int .i64 r))) (h:zdd ab l deep left=some r):
  Pu prog 188 [.one (.sl (l.map xsp)),.one (.int .i64 deep),.one (.int .i64 left)] (.one (.int .i64 r)):=by
 have F:=trivial;have R:=trivial
 refine pA func188 ?_;simp only[f188];unfold zdd at h;refine fi h F ?_ ?_<;>intro h _ F;cases h;exact fin;refine tr ?_;intros;refine fi h F ?_ ?_<;>intro h _ F;refine fi h F ?_ ?_<;>intro h _ F;cases h;exact fin;refine tr ?_;intros;refine fi h F ?_ ?_<;>intro h _ F;cases h;exact fin;refine bi h fun aJ h aD=>?_;refine tt ?_
 refine lX aD (fun|(al,an),_=>⟨[(0,.one (.sl (l.map xsp))),(1,.one (.int .i64 deep)),(2,.one (.int .i64 al)),(7,.one (.int .i64 (an:Int)))],[]⟩) (fun|(.inl aO),_=>⟨[],[]⟩|(.inr af),_=>⟨[(2,.one (.int .i64 af))],[]⟩) (fun|(.inl _)=>none|(.inr _)=>some 0) ?_ ?_
 intro i4 b4 aB
 rcases aJ with aq|af
 cases aB;obtain rfl:=Wab aB;obtain⟨⟩:=b4;dsimp only at h|-;cases h;exact fin;intro aC m4 s4 a4 o4 aa ai ar;obtain⟨al,an⟩:=s4;obtain⟨⟩:=a4;dsimp only[zji]at aa|-;refine tr ?_;intros;refine fl aa F ?_ ?_<;>intro aa _ F;refine fi aa F ?_ ?_<;>intro aa _ F;refine bx aa F fun aW aa aP F=>?_;refine bi aa fun aX aa aE=>?_;refine tr ?_;intros;refine cS (zmi aE) ?_;refine fv aa F ?_ ?_<;>intro aa _ F
 refine bi aa fun aY aa aF=>?_;refine tr ?_;intros;refine cS (zhz aF) ?_;refine tr ?_;intros;refine fi aa F ?_ ?_<;>intro aa _ F;refine bi aa fun aZ aa aG=>?_;refine tr ?_;intros;refine cS (I _ _ _ _ aG) ?_;refine fi aa F ?_ ?_<;>intro aa _ F;refine bi aa fun a5 aa aH=>?_;refine tr ?_;intros;refine cS (I _ _ _ _ aH) ?_;cases aa;refine tt ?_;refine wn an F fun F=>?_;exact bk ar ai ();cases aa
 refine tt ?_;refine wn an F fun F=>?_;exact bk ar ai ();cases aa;refine tt ?_;refine wn an F fun F=>?_;exact bk ar ai ();cases aa;obtain rfl:=sr ai
 try dsimp only at h
 cases h;exact fin;cases aa;refine tt ?_;exact xt ai aC ();cases aa;refine tt ?_;exact xt ai aC ();refine tr ?_;intros;refine fi h F ?_ ?_<;>intro h _ F;cases h;exact fin;refine bi h fun aI h aw=>?_;refine tt ?_
 refine lX aw (fun|(aj,ae),_=>⟨[(0,.one (.sl (l.map xsp))),(1,.one (.int .i64 deep)),(2,.one (.int .i64 aj)),(7,.one (.int .i64 (ae:Int)))],[]⟩) (fun|(.inl aQ),_=>⟨[],[]⟩|(.inr ak),_=>⟨[(2,.one (.int .i64 ak))],[]⟩) (fun|(.inl _)=>none|(.inr _)=>some 0) ?_ ?_
 intro i15 aK au
 rcases aI with aq|ak
 cases au;obtain rfl:=Wab au;obtain⟨⟩:=aK;dsimp only at h|-;cases h;exact fin;intro av a6 aL aM a7 U ad ao;obtain⟨aj,ae⟩:=aL;obtain⟨⟩:=aM;dsimp only[zjh]at U|-;refine tr ?_;intros;refine fl U F ?_ ?_<;>intro U _ F;refine fi U F ?_ ?_<;>intro U _ F;refine bx U F fun aR U aN F=>?_;refine bi U fun aS U ax=>?_;refine tr ?_;intros;refine cS (zmi ax) ?_;refine fv U F ?_ ?_<;>intro U _ F
 refine bi U fun aT U ay=>?_;refine tr ?_;intros;refine cS (zhz ay) ?_;refine tr ?_;intros;refine fi U F ?_ ?_<;>intro U _ F;refine bi U fun aU U az=>?_;refine tr ?_;intros;refine cS (I _ _ _ _ az) ?_;refine fi U F ?_ ?_<;>intro U _ F;refine bi U fun aV U aA=>?_;refine tr ?_;intros;refine cS (I _ _ _ _ aA) ?_;cases U;refine tt ?_;refine wn ae F fun F=>?_;exact bk ao ad ();cases U;refine tt ?_
 refine wn ae F fun F=>?_;exact bk ao ad ();cases U;refine tt ?_;refine wn ae F fun F=>?_;exact bk ao ad ();cases U;obtain rfl:=sr ad
 try dsimp only at h
 cases h;exact fin;cases U;refine tt ?_;exact xt ad av ();cases U;refine tt ?_;exact xt ad av ()
theorem zpu (n:Nat):(∀(I:List xsl) (U:Int) (x2:Int) (r:Int),(zcf n) I U x2=some r->Pu prog 188 [.one (.sl (I.map xsp)),.one (.int .i64 U),.one (.int .i64 x2)] (.one (.int .i64 r))):=by
 induction n with
 |zero=>exact fun _ _ _ r h=>(by cases h)
 |succ n ih=>
  have aa:=ih
  exact fun _ _ _ r h=>zpv aa h
theorem zry {l:List xsl} {deep:Int} {left:Int} {r:Int} (h:zn0 l deep left=some r):Pu prog 188 [.one (.sl (l.map xsp)),.one (.int .i64 deep),.one (.int .i64 left)] (.one (.int .i64 r)):=(zpu 1000000) _ _ _ _ h
theorem ztc {l:List xsl} {r:Bool} (h:zhd l=some r):
  Pu prog 160 [.one (.sl (l.map xsp))] (.one (.bool r)):=by
 have F:=trivial;have R:=trivial
 refine pA func160 ?_;simp only[f160];unfold zhd at h;refine bi h fun U h I=>?_;refine tr ?_;intros;refine cS (zry I) ?_;cases h;exact fin
theorem zrv {p:xsj} {r:Bool} (h:zfz p=some r):
  Pu prog 120 [.agg (xso p)] (.one (.bool r)):=by
 have F:=trivial;have R:=trivial
 refine pA func120 ?_;simp only[f120];unfold zfz at h;refine bi h fun ao h ak=>?_;refine tt ?_
 refine lX ak (fun|ab,_=>⟨[(1,.one (.ref 0 0 0 0)),(3,.one (.int .i64 (ab:Int)))],[.cells 0 6 [(eP_ p)]]⟩) (fun|(.inl av),_=>⟨[],[]⟩|(.inr ()),_=>⟨[],[.cells 0 6 [(eP_ p)]]⟩) (fun|(.inl _)=>none|(.inr _)=>some 0) ?_ ?_
 intro i3 b3 ai
 rcases ao with ae|⟨⟩
 cases ai;obtain rfl:=Wab ai;obtain⟨⟩:=b3;dsimp only at h|-;cases h;exact fin;intro af3 m3 ab a3 o3 I ho3 ih3;obtain⟨⟩:=a3;dsimp only[zgn]at I|-;refine tr ?_;intros;refine fl I F ?_ ?_<;>intro I _ F;refine bx I F fun aa I aw F=>?_;refine tr ?_;intros;refine fi I F ?_ ?_<;>intro I _ F;cases I;obtain rfl:=sr ho3
 try dsimp only at h
 cases h;exact fin;refine fi I F ?_ ?_<;>intro I _ F;cases I;obtain rfl:=sr ho3
 try dsimp only at h
 cases h;exact fin;refine tt ?_;refine fi I F ?_ ?_<;>intro I _ F;cases I;obtain rfl:=sr ho3
 try dsimp only at h
 cases h;exact fin;refine fi I F ?_ ?_<;>intro I _ F;cases I;obtain rfl:=sr ho3
 try dsimp only at h
 cases h;exact fin;refine tr ?_;intros;refine fi I F ?_ ?_<;>intro I _ F;refine bi I fun az I al=>?_;refine tr ?_;intros;refine cS (ztc al) ?_;refine fv I F ?_ ?_<;>intro I _ F;refine bi I fun aq I an=>?_;refine tt ?_
 refine lX an (fun|af,_=>⟨[(1,.one (.ref 0 0 0 0)),(3,.one (.int .i64 (ab:Int))),(4,.one (.ref 1 0 0 0)),(5,.one (.int .i64 (af:Int)))],[.cells 0 6 [(eP_ p)],.cells 0 4 [[.int .i64 aa.Every,.int .i64 aa.Priority,.sl (aa.Budget.map eI),.sl (aa.Body.map xsp)]]]⟩) (fun|(.inl ax),_=>⟨[],[]⟩|(.inr ()),_=>⟨[(1,.one (.ref 0 0 0 0)),(3,.one (.int .i64 (ab:Int)))],[.cells 0 6 [(eP_ p)],.cells 0 4 [[.int .i64 aa.Every,.int .i64 aa.Priority,.sl (aa.Budget.map eI),.sl (aa.Body.map xsp)]]]⟩) (fun|(.inl _)=>none|(.inr _)=>some 2) ?_ ?_
 intro i8 b8 aj
 rcases aq with ae|⟨⟩
 cases aj;obtain rfl:=Wab aj;obtain⟨⟩:=b8;dsimp only at I|-;cases I;refine tt ?_;refine wn ab F fun F=>?_;exact bk ih3 ho3 ();intro ar m8 af a8 o8 U ad au;obtain⟨⟩:=a8;dsimp only[zgm]at U|-;refine tr ?_;intros;refine fl U F ?_ ?_<;>intro U _ F;refine bx U F fun aA U ay F=>?_;refine tr ?_;intros;refine fi U F ?_ ?_<;>intro U _ F;cases U;obtain rfl:=sr ad
 try dsimp only at I
 cases I;obtain rfl:=sr ho3
 try dsimp only at h
 cases h;exact fin;refine tr ?_;intros;refine fi U F ?_ ?_<;>intro U _ F;cases U;obtain rfl:=sr ad
 try dsimp only at I
 cases I;obtain rfl:=sr ho3
 try dsimp only at h
 cases h;exact fin;cases U;refine tt ?_;refine wn af F fun F=>?_;exact bk au ad ();cases U;refine tt ?_;exact xt ad ar ();cases I;obtain rfl:=sr ho3
 try dsimp only at h
 cases h;exact fin;cases I;obtain rfl:=sr ho3
 try dsimp only at h
 cases h;exact fin;cases I;refine tt ?_;exact xt ho3 af3 ()
theorem zfq {n:Int} {r:Str} (h:zb4 n=some r):
  Pu prog 190 [.one (.int .i64 n)] (.one (.str r)):=by
 have F:=trivial;have R:=trivial
 refine pA func190 ?_;simp only[f190];unfold zb4 at h;refine fi h F ?_ ?_<;>intro h _ F;refine bi h fun aa h I=>?_;refine tr ?_;intros;refine cS (za2 I) ?_;refine nd h F fun h F=>?_;cases h;exact fin;refine bi h fun ab h U=>?_;refine tr ?_;intros;refine cS (za2 U) ?_;cases h;exact fin
theorem zt9 {t:xsz} {r:Str} (h:zij t=some r):
  Pu prog 189 [.agg (xs7 t)] (.one (.str r)):=by
 have F:=trivial;have R:=trivial
 refine pA func189 ?_;simp only[f189];unfold zij at h;refine by_ h F fun ab h I F=>?_;refine ln F fun F=>?_
 have R:=And.intro (show([[.str []],[.str ([66,79,79,76]:Str)],[.str ([73,78,84]:Str)],[.str ([68,73,78,84]:Str)],[.str ([84,73,77,69]:Str)]]:List (List C))[t.Kind.toNat]? =some [.str ab]from ykz (f:=eS) I) R
 refine tr ?_;intros;refine fi h F ?_ ?_<;>intro h _ F;cases h;exact fin;refine bi h fun ad h U=>?_;refine tr ?_;intros;refine cD (zfq U) ?_;refine nd h F fun h F=>?_;refine nd h F fun h F=>?_;refine bi h fun ae h aa=>?_;refine tr ?_;intros;refine cD (zfq aa) ?_;refine nd h F fun h F=>?_;refine nd h F fun h F=>?_;refine nd h F fun h F=>?_;cases h;exact fin
theorem zua {p:xsj} {v:xsq} {r:Str} (h:zik p v=some r):
  Pu prog 161 [.agg (xso p),.agg (xst v)] (.one (.str r)):=by
 have F:=trivial;have R:=trivial
 refine pA func161 ?_;simp only[f161];unfold zik at h;refine by_ h F fun ad h aa F=>?_;refine ln F fun F=>?_
 have R:=And.intro (show([[.str ([86,65,82,32]:Str)],[.str ([73,78,80,85,84,32]:Str)],[.str ([79,85,84,80,85,84,32]:Str)]]:List (List C))[v.Mode.toNat]? =some [.str ad]from ykz (f:=eS) aa) R
 refine nd h F fun h F=>?_;refine nd h F fun h F=>?_;refine bi h fun aj h ab=>?_;refine tr ?_;intros;refine cD (zt9 ab) ?_;refine nd h F fun h F=>?_;refine tr ?_;intros;refine fi h F ?_ ?_<;>intro h _ F;refine by_ h F fun ak h ae F=>?_;refine nd h F fun h F=>?_;refine nd h F fun h F=>?_;refine tr ?_;intros;refine fi h F ?_ ?_<;>intro h _ F;refine fi h F ?_ ?_<;>intro h _ F;refine tt ?_
 refine fi h F ?_ ?_<;>intro h _ F;refine nd h F fun h F=>?_;refine nd h F fun h F=>?_;cases h;exact fin;refine nd h F fun h F=>?_;refine nd h F fun h F=>?_;cases h;exact fin;refine bi h fun af h I=>?_;refine tr ?_;intros;refine cS (zfq I) ?_;refine nd h F fun h F=>?_;refine nd h F fun h F=>?_;refine nd h F fun h F=>?_;cases h;exact fin;refine nd h F fun h F=>?_;cases h;exact fin
 refine fi h F ?_ ?_<;>intro h _ F;refine tt ?_;refine fi h F ?_ ?_<;>intro h _ F;refine fi h F ?_ ?_<;>intro h _ F;refine nd h F fun h F=>?_;refine nd h F fun h F=>?_;cases h;exact fin;refine nd h F fun h F=>?_;refine nd h F fun h F=>?_;cases h;exact fin;refine bi h fun ai h U=>?_;refine tr ?_;intros;refine cS (zfq U) ?_;refine nd h F fun h F=>?_;refine nd h F fun h F=>?_;refine nd h F fun h F=>?_
 cases h;exact fin;refine nd h F fun h F=>?_;cases h;exact fin
theorem zqn {ad:(List xsl)->Option Str} {l:List xsl} {r:Str}
  (U:∀(x0:List xsl) (r:Str),ad x0=some r->Pu prog 202 [.one (.sl (x0.map xsp))] (.one (.str r))) (h:zfe ad l=some r):
  Pu prog 202 [.one (.sl (l.map xsp))] (.one (.str r)):=by
 have F:=trivial;have R:=trivial
 refine pA func202 ?_;simp only[f202];unfold zfe at h;refine bi h fun ao h ar=>?_;refine tt ?_
 refine lX ar (fun|(aq,aa),_=>⟨[(0,.one (.sl (l.map xsp))),(3,.one (.str aq)),(4,.one (.int .i64 (aa:Int)))],[]⟩) (fun|ao,_=>⟨[(3,.one (.str ao))],[]⟩) (fun _=>some 0) ?_ ?_
 intro i4 b4 aw;obtain rfl:=Wab aw;obtain⟨⟩:=b4;dsimp only at h|-;cases h;exact fin;intro ax m4 s4 a4 o4 I ab ae;obtain⟨aq,aa⟩:=s4;obtain⟨⟩:=a4;dsimp only[zj2]at I|-;refine tr ?_;intros;refine fl I F ?_ ?_<;>intro I _ F;refine fi I F ?_ ?_<;>intro I _ F;refine nd I F fun I F=>?_;refine bx I F fun aH I az F=>?_;refine bi I fun aI I au=>?_;refine tr ?_;intros;refine cS (zhz au) ?_
 refine nd I F fun I F=>?_;refine bi I fun aJ I av=>?_;refine tr ?_;intros;refine cS (U _ _ av) ?_;refine fi I F ?_ ?_<;>intro I _ F;refine tr ?_;intros;refine fi I F ?_ ?_<;>intro I _ F;refine nd I F fun I F=>?_;refine tr ?_;intros;refine fi I F ?_ ?_<;>intro I _ F;refine bi I fun aA I af=>?_;refine tr ?_;intros;refine cS (U _ _ af) ?_;refine nd I F fun I F=>?_;refine nd I F fun I F=>?_
 refine nd I F fun I F=>?_;refine nd I F fun I F=>?_;cases I;refine tr ?_;intros;refine wn aa F fun F=>?_;exact bk ae ab ();refine nd I F fun I F=>?_;cases I;refine tr ?_;intros;refine wn aa F fun F=>?_;exact bk ae ab ();refine fi I F ?_ ?_<;>intro I _ F;refine nd I F fun I F=>?_;refine nd I F fun I F=>?_;cases I;refine tr ?_;intros;refine wn aa F fun F=>?_;exact bk ae ab ();refine fi I F ?_ ?_<;>intro I _ F
 refine nd I F fun I F=>?_;refine nd I F fun I F=>?_;cases I;refine tr ?_;intros;refine wn aa F fun F=>?_;exact bk ae ab ();cases I;refine tt ?_;refine wn aa F fun F=>?_;exact bk ae ab ();refine nd I F fun I F=>?_;refine tr ?_;intros;refine fi I F ?_ ?_<;>intro I _ F;refine nd I F fun I F=>?_;refine tr ?_;intros;refine fi I F ?_ ?_<;>intro I _ F;refine bi I fun aB I ai=>?_;refine tr ?_
 intros;refine cS (U _ _ ai) ?_;refine nd I F fun I F=>?_;refine nd I F fun I F=>?_;refine nd I F fun I F=>?_;refine nd I F fun I F=>?_;cases I;refine tr ?_;intros;refine wn aa F fun F=>?_;exact bk ae ab ();refine nd I F fun I F=>?_;cases I;refine tr ?_;intros;refine wn aa F fun F=>?_;exact bk ae ab ();refine fi I F ?_ ?_<;>intro I _ F;refine nd I F fun I F=>?_;refine nd I F fun I F=>?_
 cases I;refine tr ?_;intros;refine wn aa F fun F=>?_;exact bk ae ab ();refine fi I F ?_ ?_<;>intro I _ F;refine nd I F fun I F=>?_;refine nd I F fun I F=>?_;cases I;refine tr ?_;intros;refine wn aa F fun F=>?_;exact bk ae ab ();cases I;refine tt ?_;refine wn aa F fun F=>?_;exact bk ae ab ();refine bx I F fun aC I ay F=>?_;refine bi I fun aD I aj=>?_;refine tr ?_;intros;refine cS (zhz aj) ?_
 refine nd I F fun I F=>?_;refine bi I fun aE I ak=>?_;refine tr ?_;intros;refine cS (U _ _ ak) ?_;refine fi I F ?_ ?_<;>intro I _ F;refine tr ?_;intros;refine fi I F ?_ ?_<;>intro I _ F;refine nd I F fun I F=>?_;refine tr ?_;intros;refine fi I F ?_ ?_<;>intro I _ F;refine bi I fun aF I al=>?_;refine tr ?_;intros;refine cS (U _ _ al) ?_;refine nd I F fun I F=>?_;refine nd I F fun I F=>?_
 refine nd I F fun I F=>?_;refine nd I F fun I F=>?_;cases I;refine tr ?_;intros;refine wn aa F fun F=>?_;exact bk ae ab ();refine nd I F fun I F=>?_;cases I;refine tr ?_;intros;refine wn aa F fun F=>?_;exact bk ae ab ();refine fi I F ?_ ?_<;>intro I _ F;refine nd I F fun I F=>?_;refine nd I F fun I F=>?_;cases I;refine tr ?_;intros;refine wn aa F fun F=>?_;exact bk ae ab ();refine fi I F ?_ ?_<;>intro I _ F
 refine nd I F fun I F=>?_;refine nd I F fun I F=>?_;cases I;refine tr ?_;intros;refine wn aa F fun F=>?_;exact bk ae ab ();cases I;refine tt ?_;refine wn aa F fun F=>?_;exact bk ae ab ();refine nd I F fun I F=>?_;refine tr ?_;intros;refine fi I F ?_ ?_<;>intro I _ F;refine nd I F fun I F=>?_;refine tr ?_;intros;refine fi I F ?_ ?_<;>intro I _ F;refine bi I fun aG I an=>?_;refine tr ?_
 intros;refine cS (U _ _ an) ?_;refine nd I F fun I F=>?_;refine nd I F fun I F=>?_;refine nd I F fun I F=>?_;refine nd I F fun I F=>?_;cases I;refine tr ?_;intros;refine wn aa F fun F=>?_;exact bk ae ab ();refine nd I F fun I F=>?_;cases I;refine tr ?_;intros;refine wn aa F fun F=>?_;exact bk ae ab ();refine fi I F ?_ ?_<;>intro I _ F;refine nd I F fun I F=>?_;refine nd I F fun I F=>?_
 cases I;refine tr ?_;intros;refine wn aa F fun F=>?_;exact bk ae ab ();refine fi I F ?_ ?_<;>intro I _ F;refine nd I F fun I F=>?_;refine nd I F fun I F=>?_;cases I;refine tr ?_;intros;refine wn aa F fun F=>?_;exact bk ae ab ();cases I;refine tt ?_;refine wn aa F fun F=>?_;exact bk ae ab ();cases I;refine tt ?_;exact xt ab ax ()
theorem zqm (n:Nat):(∀(I:List xsl) (r:Str),(zfd n) I=some r->Pu prog 202 [.one (.sl (I.map xsp))] (.one (.str r))):=by
 induction n with
 |zero=>exact fun _ r h=>(by cases h)
 |succ n ih=>
  have U:=ih
  exact fun _ r h=>zqn U h
theorem zs8 {l:List xsl} {r:Str} (h:zom l=some r):Pu prog 202 [.one (.sl (l.map xsp))] (.one (.str r)):=(zqm 1000000) _ _ h
theorem zta {l:List xsl} {r:Str} (h:zhc l=some r):
  Pu prog 192 [.one (.sl (l.map xsp))] (.one (.str r)):=by
 have F:=trivial;have R:=trivial
 refine pA func192 ?_;simp only[f192];unfold zhc at h;refine bi h fun U h I=>?_;refine tr ?_;intros;refine cS (zs8 I) ?_;cases h;exact fin
theorem zs5 {p:xsj} {t:xs2} {r:Str} (h:zg9 p t=some r):
  Pu prog 162 [.agg (xso p),.agg (xsv t)] (.one (.str r)):=by
 have F:=trivial;have R:=trivial
 refine pA func162 ?_;simp only[f162];unfold zg9 at h;refine bi h fun aE h ak=>?_;refine tr ?_;intros;refine cD (za2 ak) ?_;refine nd h F fun h F=>?_;refine nd h F fun h F=>?_;refine bi h fun aF h al=>?_;refine tr ?_;intros;refine cD (za2 al) ?_;refine nd h F fun h F=>?_;refine bi h fun af h an=>?_;refine tr ?_;intros
 refine lX an (fun|(ai,U),_=>⟨[(2,.one (.ref 0 0 0 0)),(3,.one (.ref 1 0 0 0)),(5,.one (.str ai)),(6,.one (.int .i64 (U:Int)))],[.cells 0 6 [(eP_ p)],.cells 0 4 [[.int .i64 t.Every,.int .i64 t.Priority,.sl (t.Budget.map eI),.sl (t.Body.map xsp)]]]⟩) (fun|af,_=>⟨[(3,.one (.ref 1 0 0 0)),(5,.one (.str af))],[.cells 0 6 [(eP_ p)],.cells 0 4 [[.int .i64 t.Every,.int .i64 t.Priority,.sl (t.Budget.map eI),.sl (t.Body.map xsp)]]]⟩) (fun _=>some 0) ?_ ?_
 intro i9 b9 ao;obtain rfl:=Wab ao;obtain⟨⟩:=b9;dsimp only at h|-;refine nd h F fun h F=>?_;refine bi h fun ax h ab=>?_;refine tr ?_;intros;refine cS (zta ab) ?_;refine fi h F ?_ ?_<;>intro h _ F;refine nd h F fun h F=>?_;cases h;exact fin;refine nd h F fun h F=>?_;refine nd h F fun h F=>?_;refine nd h F fun h F=>?_;cases h;exact fin;intro aq m9 s9 a9 o9 I aa aj;obtain⟨ai,U⟩:=s9
 obtain⟨⟩:=a9;dsimp only[zj0]at I|-;refine tr ?_;intros;refine fl I F ?_ ?_<;>intro I _ F;refine fi I F ?_ ?_<;>intro I _ F;refine nd I F fun I F=>?_;refine bx I F fun ay I ar F=>?_;refine nd I F fun I F=>?_;refine bx I F fun az I au F=>?_;refine bi I fun aA I ad=>?_;refine tr ?_;intros;refine cD (za2 ad) ?_;refine nd I F fun I F=>?_;refine nd I F fun I F=>?_;cases I;refine tr ?_
 intros;refine wn U F fun F=>?_;exact bk aj aa ();refine nd I F fun I F=>?_;refine bx I F fun aB I av F=>?_;refine nd I F fun I F=>?_;refine bx I F fun aC I aw F=>?_;refine bi I fun aD I ae=>?_;refine tr ?_;intros;refine cD (za2 ae) ?_;refine nd I F fun I F=>?_;refine nd I F fun I F=>?_;cases I;refine tr ?_;intros;refine wn U F fun F=>?_;exact bk aj aa ();cases I;refine tt ?_;exact xt aa aq ()
theorem zs4 {p:xsj} {r:Str} (h:zg8 p=some r):
  Pu prog 121 [.agg (xso p)] (.one (.str r)):=by
 have F:=trivial;have R:=trivial
 refine pA func121 ?_;simp only[f121];unfold zg8 at h;refine bi h fun aN h aQ=>?_;refine tt ?_
 refine lX aQ (fun|(aO,an),_=>⟨[(1,.one (.ref 0 0 0 0)),(3,.one (.str aO)),(4,.one (.int .i64 (an:Int)))],[.cells 0 6 [(eP_ p)]]⟩) (fun|aN,_=>⟨[(1,.one (.ref 0 0 0 0)),(3,.one (.str aN))],[.cells 0 6 [(eP_ p)]]⟩) (fun _=>some 0) ?_ ?_
 intro i4 b4 bb;obtain rfl:=Wab bb;obtain⟨⟩:=b4;dsimp only at h|-;refine bi h fun ao h aG=>?_;refine tt ?_
 refine lX aG (fun|(aq,af),_=>⟨[(1,.one (.ref 0 0 0 0)),(3,.one (.str aq)),(5,.one (.int .i64 (af:Int)))],[.cells 0 6 [(eP_ p)]]⟩) (fun|ao,_=>⟨[(1,.one (.ref 0 0 0 0)),(3,.one (.str ao))],[.cells 0 6 [(eP_ p)]]⟩) (fun _=>some 2) ?_ ?_
 intro i13 bc aR;obtain rfl:=Wab aR;obtain⟨⟩:=bc;dsimp only at h|-;refine bi h fun ar h aH=>?_;refine tt ?_
 refine lX aH (fun|(au,ai),_=>⟨[(1,.one (.ref 0 0 0 0)),(3,.one (.str au)),(6,.one (.int .i64 (ai:Int)))],[.cells 0 6 [(eP_ p)]]⟩) (fun|ar,_=>⟨[(1,.one (.ref 0 0 0 0)),(3,.one (.str ar))],[.cells 0 6 [(eP_ p)]]⟩) (fun _=>some 4) ?_ ?_
 intro i26 bf aS;obtain rfl:=Wab aS;obtain⟨⟩:=bf;dsimp only at h|-;refine bi h fun av h aI=>?_;refine tt ?_
 refine lX aI (fun|(aw,aj),_=>⟨[(1,.one (.ref 0 0 0 0)),(3,.one (.str aw)),(8,.one (.int .i64 (aj:Int)))],[.cells 0 6 [(eP_ p)]]⟩) (fun|av,_=>⟨[(1,.one (.ref 0 0 0 0)),(3,.one (.str av))],[.cells 0 6 [(eP_ p)]]⟩) (fun _=>some 6) ?_ ?_
 intro i41 bg aT;obtain rfl:=Wab aT;obtain⟨⟩:=bg;dsimp only at h|-;refine bi h fun ax h aJ=>?_;refine tt ?_
 refine lX aJ (fun|(ay,ak),_=>⟨[(1,.one (.ref 0 0 0 0)),(3,.one (.str ay)),(9,.one (.int .i64 (ak:Int)))],[.cells 0 6 [(eP_ p)]]⟩) (fun|ax,_=>⟨[(1,.one (.ref 0 0 0 0)),(3,.one (.str ax))],[.cells 0 6 [(eP_ p)]]⟩) (fun _=>some 8) ?_ ?_
 intro i49 bh aU;obtain rfl:=Wab aU;obtain⟨⟩:=bh;dsimp only at h|-;refine bi h fun az h aK=>?_;refine tt ?_
 refine lX aK (fun|(aA,al),_=>⟨[(1,.one (.ref 0 0 0 0)),(3,.one (.str aA)),(10,.one (.int .i64 (al:Int)))],[.cells 0 6 [(eP_ p)]]⟩) (fun|az,_=>⟨[(3,.one (.str az))],[.cells 0 6 [(eP_ p)]]⟩) (fun _=>some 10) ?_ ?_
 intro i63 bj aV;obtain rfl:=Wab aV;obtain⟨⟩:=bj;dsimp only at h|-;cases h;exact fin;intro aW bX bl bm bY ab aB aX;obtain⟨aA,al⟩:=bl;obtain⟨⟩:=bm;dsimp only[zhp]at ab|-;refine tr ?_;intros;refine fl ab F ?_ ?_<;>intro ab _ F;refine bx ab F fun bK ab bA F=>?_;refine bi ab fun bL ab aL=>?_;refine tr ?_;intros;refine cD (zs5 aL) ?_;refine nd ab F fun ab F=>?_;cases ab;refine tr ?_
 intros;refine wn al F fun F=>?_;exact bk aX aB ();cases ab;refine tt ?_;exact xt aB aW ();intro aY bZ bn bo b0 U aC aZ;obtain⟨ay,ak⟩:=bn;obtain⟨⟩:=bo;dsimp only[zhq]at U|-;refine tr ?_;intros;refine fl U F ?_ ?_<;>intro U _ F;refine bx U F fun bM U bB F=>?_;refine nd U F fun U F=>?_;refine nd U F fun U F=>?_;refine nd U F fun U F=>?_;refine nd U F fun U F=>?_;refine by_ U F fun bN U bC F=>?_
 refine nd U F fun U F=>?_;refine nd U F fun U F=>?_;refine nd U F fun U F=>?_;cases U;refine tr ?_;intros;refine wn ak F fun F=>?_;exact bk aZ aC ();cases U;refine tt ?_;exact xt aC aY ();intro a5 b1 bp bq b2 ad aD a6;obtain⟨aw,aj⟩:=bp;obtain⟨⟩:=bq;dsimp only[zhr]at ad|-;refine tr ?_;intros;refine fl ad F ?_ ?_<;>intro ad _ F;refine bx ad F fun bO ad bD F=>?_;refine bi ad fun bP ad aM=>?_
 refine tr ?_;intros;refine cD (zua aM) ?_;refine nd ad F fun ad F=>?_;cases ad;refine tr ?_;intros;refine wn aj F fun F=>?_;exact bk a6 aD ();cases ad;refine tt ?_;exact xt aD a5 ();intro a7 b3 br bs b5 I aE a8;obtain⟨au,ai⟩:=br;obtain⟨⟩:=bs;dsimp only[zhs]at I|-;refine tr ?_;intros;refine fl I F ?_ ?_<;>intro I _ F;refine bx I F fun bQ I bE F=>?_;refine nd I F fun I F=>?_;refine nd I F fun I F=>?_
 refine by_ I F fun bR I bF F=>?_;refine nd I F fun I F=>?_;refine nd I F fun I F=>?_;refine by_ I F fun bS I bG F=>?_;refine nd I F fun I F=>?_;refine nd I F fun I F=>?_;refine nd I F fun I F=>?_;cases I;refine tr ?_;intros;refine wn ai F fun F=>?_;exact bk a8 aE ();cases I;refine tt ?_;exact xt aE a7 ();intro a9 b6 bt bu b7 aa aF ba;obtain⟨aq,af⟩:=bt;obtain⟨⟩:=bu;dsimp only[zht]at aa|-
 refine tr ?_;intros;refine fl aa F ?_ ?_<;>intro aa _ F;refine bx aa F fun bT aa bH F=>?_;refine by_ aa F fun bU aa bI F=>?_;refine nd aa F fun aa F=>?_;refine nd aa F fun aa F=>?_;refine by_ aa F fun bV aa bJ F=>?_;refine nd aa F fun aa F=>?_;refine nd aa F fun aa F=>?_;refine nd aa F fun aa F=>?_;cases aa;refine tr ?_;intros;refine wn af F fun F=>?_;exact bk ba aF ();cases aa
 refine tt ?_;exact xt aF a9 ();intro bw m4 s4 a4 o4 ae aP bz;obtain⟨aO,an⟩:=s4;obtain⟨⟩:=a4;dsimp only[zhu]at ae|-;refine tr ?_;intros;refine fl ae F ?_ ?_<;>intro ae _ F;refine bx ae F fun b8 ae bW F=>?_;refine nd ae F fun ae F=>?_;refine nd ae F fun ae F=>?_;refine nd ae F fun ae F=>?_;cases ae;refine tr ?_;intros;refine wn an F fun F=>?_;exact bk bz aP ();cases ae;refine tt ?_
 exact xt aP bw ()
theorem zd8 {p:xsj} {r:Bool} (h:zbl p=some r):
  Pu prog 82 [.agg (xso p)] (.one (.bool r)):=by
 have F:=trivial;have R:=trivial
 refine pA func82 ?_;simp only[f82];unfold zbl at h;refine bi h fun ab h I=>?_;refine tr ?_;intros;refine cS (zrw I) ?_;refine fv h F ?_ ?_<;>intro h _ F;refine bi h fun ad h U=>?_;refine tr ?_;intros;refine cS (zrv U) ?_;refine fv h F ?_ ?_<;>intro h _ F;refine bi h fun ae h aa=>?_;refine tr ?_;intros;refine cS (zs4 aa) ?_;cases h;exact fin;cases h;exact fin;cases h;exact fin
theorem zpj {U:(List xsl)->Option Int} {l:List xsl} {r:Int}
  (I:∀(x0:List xsl) (r:Int),U x0=some r->Pu prog 110 [.one (.sl (x0.map xsp))] (.one (.int .i64 r))) (h:zen U l=some r):
  Pu prog 110 [.one (.sl (l.map xsp))] (.one (.int .i64 r)):=by
 have F:=trivial;have R:=trivial
 refine pA func110 ?_;simp only[f110];unfold zen at h;refine bi h fun ae h aj=>?_;refine tt ?_
 refine lX aj (fun|(af,ab),_=>⟨[(0,.one (.sl (l.map xsp))),(3,.one (.int .i64 af)),(4,.one (.int .i64 (ab:Int)))],[]⟩) (fun|ae,_=>⟨[(3,.one (.int .i64 ae))],[]⟩) (fun _=>some 0) ?_ ?_
 intro i4 b4 aq;obtain rfl:=Wab aq;obtain⟨⟩:=b4;dsimp only at h|-;cases h;exact fin;intro ar m4 s4 a4 o4 aa ad ai;obtain⟨af,ab⟩:=s4;obtain⟨⟩:=a4;dsimp only[zi3]at aa|-;refine tr ?_;intros;refine fl aa F ?_ ?_<;>intro aa _ F;refine bx aa F fun av aa au F=>?_;refine tr ?_;intros;refine fi aa F ?_ ?_<;>intro aa _ F;refine bi aa fun aw aa ak=>?_;refine tr ?_;intros;refine cD (I _ _ ak) ?_
 refine bi aa fun ax aa al=>?_;refine tr ?_;intros;refine cD (I _ _ al) ?_;cases aa;refine tr ?_;intros;refine wn ab F fun F=>?_;exact bk ai ad ();refine bi aa fun ay aa an=>?_;refine tr ?_;intros;refine cD (I _ _ an) ?_;refine bi aa fun az aa ao=>?_;refine tr ?_;intros;refine cD (I _ _ ao) ?_;cases aa;refine tr ?_;intros;refine wn ab F fun F=>?_;exact bk ai ad ();cases aa;refine tt ?_;exact xt ad ar ()
theorem zpi (n:Nat):(∀(I:List xsl) (r:Int),(zem n) I=some r->Pu prog 110 [.one (.sl (I.map xsp))] (.one (.int .i64 r))):=by
 induction n with
 |zero=>exact fun _ r h=>(by cases h)
 |succ n ih=>
  have U:=ih
  exact fun _ r h=>zpj U h
theorem zri {l:List xsl} {r:Int} (h:znx l=some r):Pu prog 110 [.one (.sl (l.map xsp))] (.one (.int .i64 r)):=(zpi 1000000) _ _ h
theorem zt3 {l:List Int} {r:Int} (h:zie l=some r):
  Pu prog 111 [.one (.sl (l.map eI))] (.one (.int .i64 r)):=by
 have F:=trivial;have R:=trivial
 refine pA func111 ?_;simp only[f111];unfold zie at h;refine bi h fun aa h ae=>?_;refine tt ?_
 refine lX ae (fun|(ab,U),_=>⟨[(0,.one (.sl (l.map eI))),(3,.one (.int .i64 ab)),(4,.one (.int .i64 (U:Int)))],[]⟩) (fun|aa,_=>⟨[(3,.one (.int .i64 aa))],[]⟩) (fun _=>some 0) ?_ ?_
 intro i4 b4 af;obtain rfl:=Wab af;obtain⟨⟩:=b4;dsimp only at h|-;cases h;exact fin;intro ai m4 s4 a4 o4 I ad aj;obtain⟨ab,U⟩:=s4;obtain⟨⟩:=a4;dsimp only[zkf]at I|-;refine tr ?_;intros;refine fl I F ?_ ?_<;>intro I _ F;refine bx I F fun al I ak F=>?_;cases I;refine tr ?_;intros;refine wn U F fun F=>?_;exact bk aj ad ();cases I;refine tt ?_;exact xt ad ai ()
theorem zsv {p:xsj} {r:Bool} (h:zg3 p=some r):
  Pu prog 77 [.agg (xso p)] (.one (.bool r)):=by
 have F:=trivial;have R:=trivial
 refine pA func77 ?_;simp only[f77];unfold zg3 at h;refine bi h fun au h af=>?_;refine tr ?_;intros;refine cS (zd8 af) ?_;refine fv h F ?_ ?_<;>intro h _ F;refine tr ?_;intros;refine fi h F ?_ ?_<;>intro h _ F;cases h;exact fin;refine bi h fun al h ai=>?_;refine tt ?_
 refine lX ai (fun|(ad,U),_=>⟨[(1,.one (.ref 0 0 0 0)),(3,.one (.int .i64 ad)),(4,.one (.int .i64 (U:Int)))],[.cells 0 6 [(eP_ p)]]⟩) (fun|(.inl av),_=>⟨[],[]⟩|(.inr aa),_=>⟨[(3,.one (.int .i64 aa))],[.cells 0 6 [(eP_ p)]]⟩) (fun|(.inl _)=>none|(.inr _)=>some 0) ?_ ?_
 intro i5 b5 ae
 rcases al with an|aa
 cases ae;obtain rfl:=Wab ae;obtain⟨⟩:=b5;dsimp only at h|-;cases h;exact fin;intro ao m5 s5 a5 o5 I ab aq;obtain⟨ad,U⟩:=s5;obtain⟨⟩:=a5;dsimp only[zjt]at I|-;refine tr ?_;intros;refine fl I F ?_ ?_<;>intro I _ F;refine bx I F fun aw I ar F=>?_;refine bi I fun ax I aj=>?_;refine tr ?_;intros;refine cS (zri aj) ?_;refine bi I fun ay I ak=>?_;refine tr ?_;intros;refine cS (zt3 ak) ?_
 refine fi I F ?_ ?_<;>intro I _ F;cases I;obtain rfl:=sr ab
 try dsimp only at h
 cases h;exact fin;cases I;refine tt ?_;refine wn U F fun F=>?_;exact bk aq ab ();cases I;refine tt ?_;exact xt ab ao ();cases h;exact fin
theorem zai {l:xsn} {a:Int} {b:Int} {r:Bool} (h:zak l a b=some r):
  Pu prog 24 [.agg (xs3 l),.one (.int .i64 a),.one (.int .i64 b)] (.one (.bool r)):=by
 have F:=trivial;have R:=trivial
 refine pA func24 ?_;simp only[f24];unfold zak at h;refine bi h fun aS h aw=>?_;refine tr ?_;intros;refine cS (zbn aw) ?_;refine fv h F ?_ ?_<;>intro h _ F;refine bi h fun aT h ax=>?_;refine tr ?_;intros;refine cS (zbn ax) ?_;refine fv h F ?_ ?_<;>intro h _ F;refine nd h F fun h F=>?_
 have R:=And.intro (show List.replicate l.Names.length [.bool false]=List.map eB (List.replicate l.Names.length false) by simp[go_sem]) R
 refine by_ h F fun aU h aM F=>?_;refine ln F fun F=>?_
 have R:=And.intro (show(List.map eB (List.replicate l.Names.length false)).set a.toNat [.bool true]=List.map eB ((List.replicate l.Names.length false).set a.toNat true) by simp[go_sem,WaL]) R
 refine bi h fun an h ay=>?_;refine tr ?_;intros
 refine lX ay (fun|(ad,al),_=>⟨[(2,.one (.int .i64 b)),(3,.one (.ref 0 0 0 0)),(7,.one (.msl 1 0 0 ad.length)),(8,.one (.bool al))],[.cells 0 2 [(eQ_ l)],.cells 0 1 (ad.map eB)]⟩) (fun|an,_=>⟨[(2,.one (.int .i64 b)),(7,.one (.msl 1 0 0 an.length))],[.cells 0 2 [(eQ_ l)],.cells 0 1 (an.map eB)]⟩) (fun _=>some 0) ?_ ?_
 intro i8 b8 aC;obtain rfl:=Wab aC;obtain⟨⟩:=b8;dsimp only at h|-;refine by_ h F fun aN h aI F=>?_;cases h;exact fin;intro aD m8 s8 a8 o8 af av aE;obtain⟨ad,al⟩:=s8;obtain⟨⟩:=a8;dsimp only[zdx]at af|-;refine fv af F ?_ ?_<;>intro af _ F;refine bi af fun az af aq=>?_;refine tt ?_
 refine lX aq (fun|(U,aj,aa),_=>⟨[(2,.one (.int .i64 b)),(3,.one (.ref 0 0 0 0)),(7,.one (.msl 1 0 0 U.length)),(8,.one (.bool aj)),(9,.one (.int .i64 (aa:Int)))],[.cells 0 2 [(eQ_ l)],.cells 0 1 (U.map eB)]⟩) (fun|(ab,ak),_=>⟨[(2,.one (.int .i64 b)),(3,.one (.ref 0 0 0 0)),(7,.one (.msl 1 0 0 ab.length)),(8,.one (.bool ak))],[.cells 0 2 [(eQ_ l)],.cells 0 1 (ab.map eB)]⟩) (fun _=>some 2) ?_ ?_
 intro i13 aF aA;obtain rfl:=Wab aA;obtain⟨ab,ak⟩:=az;obtain⟨⟩:=aF;dsimp only at af|-;cases af;refine tt ?_;exact bk aE av ();intro aB aV aG aH aW I ae ai;obtain⟨U,aj,aa⟩:=aG;obtain⟨⟩:=aH;dsimp only[zfk]at I|-;refine tr ?_;intros;refine fl I F ?_ ?_<;>intro I _ F;refine bx I F fun ao I aJ F=>?_;refine bi I fun aO I ar=>?_;refine tr ?_;intros;refine cS (zbn ar) ?_;refine fv I F ?_ ?_<;>intro I _ F
 refine bi I fun aP I au=>?_;refine tr ?_;intros;refine cS (zbn au) ?_;refine fv I F ?_ ?_<;>intro I _ F;refine by_ I F fun aQ I aK F=>?_;refine tr ?_;intros;refine fv I F ?_ ?_<;>intro I _ F;refine by_ I F fun aR I aL F=>?_;refine tr ?_;intros;refine fv I F ?_ ?_<;>intro I _ F;cases I;refine tt ?_;refine wn aa F fun F=>?_;exact bk ai ae ()
 have R:=And.intro (show(List.map eB U).set ao.a1.toNat [.bool true]=List.map eB (U.set ao.a1.toNat true) by simp[go_sem,WaL]) R
 cases I;refine tr ?_;intros;refine wn aa F fun F=>?_;exact bk ai ae ();cases I;refine tt ?_;refine wn aa F fun F=>?_;exact bk ai ae ();cases I;refine tt ?_;refine wn aa F fun F=>?_;exact bk ai ae ();cases I;refine tt ?_;refine wn aa F fun F=>?_;exact bk ai ae ();cases I;refine tt ?_;exact xt ae aB ();cases af;refine tt ?_;exact xt av aD ();cases h;exact fin;cases h;exact fin
theorem zh5 {l:xsn} {a:Int} {b:Int} {r:Int} (h:zcv l a b=some r):
  Pu prog 89 [.agg (xs3 l),.one (.int .i64 a),.one (.int .i64 b)] (.one (.int .i64 r)):=by
 have F:=trivial;have R:=trivial
 refine pA func89 ?_;simp only[f89];unfold zcv at h;refine bi h fun aI h aD=>?_;refine tt ?_
 refine lX aD (fun|ab,_=>⟨[(1,.one (.int .i64 a)),(2,.one (.int .i64 b)),(3,.one (.ref 0 0 0 0)),(7,.one (.int .i64 (ab:Int)))],[.cells 0 2 [(eQ_ l)]]⟩) (fun|(.inl aO),_=>⟨[],[]⟩|(.inr ()),_=>⟨[],[.cells 0 2 [(eQ_ l)]]⟩) (fun|(.inl _)=>none|(.inr _)=>some 0) ?_ ?_
 intro i3 b3 aA
 rcases aI with aJ|⟨⟩
 cases aA;obtain rfl:=Wab aA;obtain⟨⟩:=b3;dsimp only at h|-;cases h;exact fin;intro af3 m3 ab a3 o3 U ho3 ih3;obtain⟨⟩:=a3;dsimp only[zex]at U|-;refine tr ?_;intros;refine fl U F ?_ ?_<;>intro U _ F;refine bi U fun aV U aE=>?_;refine tr ?_;intros;refine cS (zai aE) ?_;refine fv U F ?_ ?_<;>intro U _ F;refine bi U fun aW U aF=>?_;refine tr ?_;intros;refine cS (zai aF) ?_;refine bi U fun aB U aG=>?_
 refine tt ?_
 refine lX aG (fun|(al,af),_=>⟨[(1,.one (.int .i64 a)),(2,.one (.int .i64 b)),(3,.one (.ref 0 0 0 0)),(7,.one (.int .i64 (ab:Int))),(8,.one (.bool al)),(9,.one (.int .i64 (af:Int)))],[.cells 0 2 [(eQ_ l)]]⟩) (fun|aB,_=>⟨[(1,.one (.int .i64 a)),(2,.one (.int .i64 b)),(3,.one (.ref 0 0 0 0)),(7,.one (.int .i64 (ab:Int))),(8,.one (.bool aB))],[.cells 0 2 [(eQ_ l)]]⟩) (fun _=>some 2) ?_ ?_
 intro i9 b9 aK;obtain rfl:=Wab aK;obtain⟨⟩:=b9;dsimp only at U|-;refine fv U F ?_ ?_<;>intro U _ F;cases U;obtain rfl:=sr ho3
 try dsimp only at h
 cases h;exact fin;cases U;refine tt ?_;refine wn ab F fun F=>?_;exact bk ih3 ho3 ();intro aC m9 s9 a9 o9 aa ai an;obtain⟨al,af⟩:=s9;obtain⟨⟩:=a9;dsimp only[zdi]at aa|-;refine tr ?_;intros;refine fl aa F ?_ ?_<;>intro aa _ F;refine fv aa F ?_ ?_<;>intro aa _ F;refine bi aa fun aP aa ar=>?_;refine tr ?_;intros;refine cS (zai ar) ?_;refine fv aa F ?_ ?_<;>intro aa _ F;refine bi aa fun aQ aa au=>?_
 refine tr ?_;intros;refine cS (zai au) ?_;refine fv aa F ?_ ?_<;>intro aa _ F;refine bi aa fun aR aa av=>?_;refine tr ?_;intros;refine cS (zai av) ?_;cases aa;refine tt ?_;refine wn af F fun F=>?_;exact bk an ai ();cases aa;refine tt ?_;refine wn af F fun F=>?_;exact bk an ai ();cases aa;refine tt ?_;refine wn af F fun F=>?_;exact bk an ai ();cases aa;refine tt ?_;exact xt ai aC ();cases aa
 refine tt ?_;exact xt ai aC ();refine bi U fun ao U aw=>?_;refine tt ?_
 refine lX aw (fun|(ak,ad),_=>⟨[(1,.one (.int .i64 a)),(2,.one (.int .i64 b)),(3,.one (.ref 0 0 0 0)),(7,.one (.int .i64 (ab:Int))),(8,.one (.bool ak)),(9,.one (.int .i64 (ad:Int)))],[.cells 0 2 [(eQ_ l)]]⟩) (fun|ao,_=>⟨[(1,.one (.int .i64 a)),(2,.one (.int .i64 b)),(3,.one (.ref 0 0 0 0)),(7,.one (.int .i64 (ab:Int))),(8,.one (.bool ao))],[.cells 0 2 [(eQ_ l)]]⟩) (fun _=>some 2) ?_ ?_
 intro i17 aL aH;obtain rfl:=Wab aH;obtain⟨⟩:=aL;dsimp only at U|-;refine fv U F ?_ ?_<;>intro U _ F;cases U;obtain rfl:=sr ho3
 try dsimp only at h
 cases h;exact fin;cases U;refine tt ?_;refine wn ab F fun F=>?_;exact bk ih3 ho3 ();intro aq aX aM aN aY I ae aj;obtain⟨ak,ad⟩:=aM;obtain⟨⟩:=aN;dsimp only[zdh]at I|-;refine tr ?_;intros;refine fl I F ?_ ?_<;>intro I _ F;refine fv I F ?_ ?_<;>intro I _ F;refine bi I fun aS I ax=>?_;refine tr ?_;intros;refine cS (zai ax) ?_;refine fv I F ?_ ?_<;>intro I _ F;refine bi I fun aT I ay=>?_
 refine tr ?_;intros;refine cS (zai ay) ?_;refine fv I F ?_ ?_<;>intro I _ F;refine bi I fun aU I az=>?_;refine tr ?_;intros;refine cS (zai az) ?_;cases I;refine tt ?_;refine wn ad F fun F=>?_;exact bk aj ae ();cases I;refine tt ?_;refine wn ad F fun F=>?_;exact bk aj ae ();cases I;refine tt ?_;refine wn ad F fun F=>?_;exact bk aj ae ();cases I;refine tt ?_;exact xt ae aq ();cases I;refine tt ?_
 exact xt ae aq ();cases U;refine tt ?_;exact xt ho3 af3 ()
theorem zml {l:xsn} {a:Int} {b:Int} {r:Int} (h:ze2 l a b=some r):
  Pu prog 112 [.agg (xs3 l),.one (.int .i64 a),.one (.int .i64 b)] (.one (.int .i64 r)):=by
 have F:=trivial;have R:=trivial
 refine pA func112 ?_;simp only[f112];unfold ze2 at h;refine bi h fun aI h aD=>?_;refine tt ?_
 refine lX aD (fun|ab,_=>⟨[(1,.one (.int .i64 a)),(2,.one (.int .i64 b)),(3,.one (.ref 0 0 0 0)),(7,.one (.int .i64 (ab:Int)))],[.cells 0 2 [(eQ_ l)]]⟩) (fun|(.inl aO),_=>⟨[],[]⟩|(.inr ()),_=>⟨[],[.cells 0 2 [(eQ_ l)]]⟩) (fun|(.inl _)=>none|(.inr _)=>some 0) ?_ ?_
 intro i3 b3 aA
 rcases aI with aJ|⟨⟩
 cases aA;obtain rfl:=Wab aA;obtain⟨⟩:=b3;dsimp only at h|-;cases h;exact fin;intro af3 m3 ab a3 o3 U ho3 ih3;obtain⟨⟩:=a3;dsimp only[zew]at U|-;refine tr ?_;intros;refine fl U F ?_ ?_<;>intro U _ F;refine bi U fun aV U aE=>?_;refine tr ?_;intros;refine cS (zai aE) ?_;refine fv U F ?_ ?_<;>intro U _ F;refine bi U fun aW U aF=>?_;refine tr ?_;intros;refine cS (zai aF) ?_;refine bi U fun aB U aG=>?_
 refine tt ?_
 refine lX aG (fun|(al,af),_=>⟨[(1,.one (.int .i64 a)),(2,.one (.int .i64 b)),(3,.one (.ref 0 0 0 0)),(7,.one (.int .i64 (ab:Int))),(8,.one (.bool al)),(9,.one (.int .i64 (af:Int)))],[.cells 0 2 [(eQ_ l)]]⟩) (fun|aB,_=>⟨[(1,.one (.int .i64 a)),(2,.one (.int .i64 b)),(3,.one (.ref 0 0 0 0)),(7,.one (.int .i64 (ab:Int))),(8,.one (.bool aB))],[.cells 0 2 [(eQ_ l)]]⟩) (fun _=>some 2) ?_ ?_
 intro i9 b9 aK;obtain rfl:=Wab aK;obtain⟨⟩:=b9;dsimp only at U|-;refine fv U F ?_ ?_<;>intro U _ F;cases U;obtain rfl:=sr ho3
 try dsimp only at h
 cases h;exact fin;cases U;refine tt ?_;refine wn ab F fun F=>?_;exact bk ih3 ho3 ();intro aC m9 s9 a9 o9 aa ai an;obtain⟨al,af⟩:=s9;obtain⟨⟩:=a9;dsimp only[zdg]at aa|-;refine tr ?_;intros;refine fl aa F ?_ ?_<;>intro aa _ F;refine fv aa F ?_ ?_<;>intro aa _ F;refine bi aa fun aP aa ar=>?_;refine tr ?_;intros;refine cS (zai ar) ?_;refine fv aa F ?_ ?_<;>intro aa _ F;refine bi aa fun aQ aa au=>?_
 refine tr ?_;intros;refine cS (zai au) ?_;refine fv aa F ?_ ?_<;>intro aa _ F;refine bi aa fun aR aa av=>?_;refine tr ?_;intros;refine cS (zai av) ?_;cases aa;refine tt ?_;refine wn af F fun F=>?_;exact bk an ai ();cases aa;refine tt ?_;refine wn af F fun F=>?_;exact bk an ai ();cases aa;refine tt ?_;refine wn af F fun F=>?_;exact bk an ai ();cases aa;refine tt ?_;exact xt ai aC ();cases aa
 refine tt ?_;exact xt ai aC ();refine bi U fun ao U aw=>?_;refine tt ?_
 refine lX aw (fun|(ak,ad),_=>⟨[(1,.one (.int .i64 a)),(2,.one (.int .i64 b)),(3,.one (.ref 0 0 0 0)),(7,.one (.int .i64 (ab:Int))),(8,.one (.bool ak)),(9,.one (.int .i64 (ad:Int)))],[.cells 0 2 [(eQ_ l)]]⟩) (fun|ao,_=>⟨[(1,.one (.int .i64 a)),(2,.one (.int .i64 b)),(3,.one (.ref 0 0 0 0)),(7,.one (.int .i64 (ab:Int))),(8,.one (.bool ao))],[.cells 0 2 [(eQ_ l)]]⟩) (fun _=>some 2) ?_ ?_
 intro i17 aL aH;obtain rfl:=Wab aH;obtain⟨⟩:=aL;dsimp only at U|-;refine fv U F ?_ ?_<;>intro U _ F;cases U;obtain rfl:=sr ho3
 try dsimp only at h
 cases h;exact fin;cases U;refine tt ?_;refine wn ab F fun F=>?_;exact bk ih3 ho3 ();intro aq aX aM aN aY I ae aj;obtain⟨ak,ad⟩:=aM;obtain⟨⟩:=aN;dsimp only[zdf]at I|-;refine tr ?_;intros;refine fl I F ?_ ?_<;>intro I _ F;refine fv I F ?_ ?_<;>intro I _ F;refine bi I fun aS I ax=>?_;refine tr ?_;intros;refine cS (zai ax) ?_;refine fv I F ?_ ?_<;>intro I _ F;refine bi I fun aT I ay=>?_
 refine tr ?_;intros;refine cS (zai ay) ?_;refine fv I F ?_ ?_<;>intro I _ F;refine bi I fun aU I az=>?_;refine tr ?_;intros;refine cS (zai az) ?_;cases I;refine tt ?_;refine wn ad F fun F=>?_;exact bk aj ae ();cases I;refine tt ?_;refine wn ad F fun F=>?_;exact bk aj ae ();cases I;refine tt ?_;refine wn ad F fun F=>?_;exact bk aj ae ();cases I;refine tt ?_;exact xt ae aq ();cases I;refine tt ?_
 exact xt ae aq ();cases U;refine tt ?_;exact xt ho3 af3 ()
theorem zr5 {l:xsn} {r:Int} (h:zf7 l=some r):
  Pu prog 78 [.agg (xs3 l)] (.one (.int .i64 r)):=by
 have F:=trivial;have R:=trivial
 refine pA func78 ?_;simp only[f78];unfold zf7 at h;refine tr ?_;intros;refine fi h F ?_ ?_<;>intro h _ F;cases h;exact fin;refine fi h F ?_ ?_<;>intro h _ F;cases h;exact fin;refine bi h fun aH h az=>?_;refine tt ?_
 refine lX az (fun|aj,_=>⟨[(1,.one (.ref 0 0 0 0)),(3,.one (.int .i64 (l.Names.length:Int))),(4,.one (.int .i64 (aj:Int)))],[.cells 0 2 [(eQ_ l)]]⟩) (fun|(.inl a4),_=>⟨[],[]⟩|(.inr ()),_=>⟨[(1,.one (.ref 0 0 0 0)),(3,.one (.int .i64 (l.Names.length:Int)))],[.cells 0 2 [(eQ_ l)]]⟩) (fun|(.inl _)=>none|(.inr _)=>some 0) ?_ ?_
 intro i3 b3 ay
 rcases aH with af|⟨⟩
 cases ay;obtain rfl:=Wab ay;obtain⟨⟩:=b3;dsimp only at h|-;refine bi h fun aI h aA=>?_;refine tt ?_
 refine lX aA (fun|ai,_=>⟨[(1,.one (.ref 0 0 0 0)),(3,.one (.int .i64 (l.Names.length:Int))),(5,.one (.int .i64 (ai:Int)))],[.cells 0 2 [(eQ_ l)]]⟩) (fun|(.inl aP),_=>⟨[],[]⟩|(.inr ()),_=>⟨[],[.cells 0 2 [(eQ_ l)]]⟩) (fun|(.inl _)=>none|(.inr _)=>some 2) ?_ ?_
 intro i10 aJ ak
 rcases aI with af|⟨⟩
 cases ak;obtain rfl:=Wab ak;obtain⟨⟩:=aJ;dsimp only at h|-;cases h;exact fin;intro aB a5 ai aK a6 U ab aC;obtain⟨⟩:=aK;dsimp only[zec]at U|-;refine fl U F ?_ ?_<;>intro U _ F;refine bx U F fun aQ U aN F=>?_;refine tr ?_;intros;refine fi U F ?_ ?_<;>intro U _ F;cases U;obtain rfl:=sr ab
 try dsimp only at h
 cases h;exact fin;refine bi U fun aD U ao=>?_;refine tt ?_
 refine lX ao (fun|ae,_=>⟨[(1,.one (.ref 0 0 0 0)),(3,.one (.int .i64 (l.Names.length:Int))),(5,.one (.int .i64 (ai:Int))),(6,.one (.int .i64 (ae:Int)))],[.cells 0 2 [(eQ_ l)]]⟩) (fun|(.inl aR),_=>⟨[],[]⟩|(.inr ()),_=>⟨[(1,.one (.ref 0 0 0 0)),(3,.one (.int .i64 (l.Names.length:Int))),(5,.one (.int .i64 (ai:Int)))],[.cells 0 2 [(eQ_ l)]]⟩) (fun|(.inl _)=>none|(.inr _)=>some 4) ?_ ?_
 intro i14 aL al
 rcases aD with af|⟨⟩
 cases al;obtain rfl:=Wab al;obtain⟨⟩:=aL;dsimp only at U|-;cases U;refine tt ?_;refine wn ai F fun F=>?_;exact bk aC ab ();intro aE a7 ae aM a8 I ad an;obtain⟨⟩:=aM;dsimp only[zc1]at I|-;refine fl I F ?_ ?_<;>intro I _ F;refine bx I F fun aS I aO F=>?_;refine tr ?_;intros;refine fi I F ?_ ?_<;>intro I _ F;cases I;obtain rfl:=sr ad
 try dsimp only at U
 cases U;obtain rfl:=sr ab
 try dsimp only at h
 cases h;exact fin;refine bi I fun aT I aq=>?_;refine tr ?_;intros;refine cD (zai aq) ?_;refine tr ?_;intros;refine fv I F ?_ ?_<;>intro I _ F;refine bi I fun aU I ar=>?_;refine tr ?_;intros;refine cD (zai ar) ?_;refine tr ?_;intros;refine fv I F ?_ ?_<;>intro I _ F;cases I;obtain rfl:=sr ad
 try dsimp only at U
 cases U;obtain rfl:=sr ab
 try dsimp only at h
 cases h;exact fin;refine bi I fun aV I au=>?_;refine tr ?_;intros;refine cD (zh5 au) ?_;refine tr ?_;intros;refine fi I F ?_ ?_<;>intro I _ F;cases I;obtain rfl:=sr ad
 try dsimp only at U
 cases U;obtain rfl:=sr ab
 try dsimp only at h
 cases h;exact fin;refine bi I fun aW I av=>?_;refine tr ?_;intros;refine cD (zml av) ?_;refine tr ?_;intros;refine fi I F ?_ ?_<;>intro I _ F;cases I;obtain rfl:=sr ad
 try dsimp only at U
 cases U;obtain rfl:=sr ab
 try dsimp only at h
 cases h;exact fin;cases I;refine tt ?_;refine wn ae F fun F=>?_;exact bk an ad ();refine bi I fun aX I aw=>?_;refine tr ?_;intros;refine cD (zh5 aw) ?_;refine tr ?_;intros;refine fi I F ?_ ?_<;>intro I _ F;cases I;obtain rfl:=sr ad
 try dsimp only at U
 cases U;obtain rfl:=sr ab
 try dsimp only at h
 cases h;exact fin;refine bi I fun aY I ax=>?_;refine tr ?_;intros;refine cD (zml ax) ?_;refine tr ?_;intros;refine fi I F ?_ ?_<;>intro I _ F;cases I;obtain rfl:=sr ad
 try dsimp only at U
 cases U;obtain rfl:=sr ab
 try dsimp only at h
 cases h;exact fin;cases I;refine tt ?_;refine wn ae F fun F=>?_;exact bk an ad ();cases I;refine tt ?_;exact xt ad aE ();cases U;refine tt ?_;exact xt ab aB ();intro af3 m3 aj a3 o3 aa ho3 ih3;obtain⟨⟩:=a3;dsimp only[zed]at aa|-;refine tr ?_;intros;refine fl aa F ?_ ?_<;>intro aa _ F;refine bx aa F fun a9 aa aZ F=>?_;refine bi aa fun ba aa aF=>?_;refine tr ?_;intros;refine cD (zbn aF) ?_
 refine tr ?_;intros;refine fv aa F ?_ ?_<;>intro aa _ F;refine bi aa fun bb aa aG=>?_;refine tr ?_;intros;refine cD (zbn aG) ?_;refine tr ?_;intros;refine fv aa F ?_ ?_<;>intro aa _ F;cases aa;refine tt ?_;refine wn aj F fun F=>?_;exact bk ih3 ho3 ();cases aa;obtain rfl:=sr ho3
 try dsimp only at h
 cases h;exact fin;cases aa;obtain rfl:=sr ho3
 try dsimp only at h
 cases h;exact fin;cases aa;refine tt ?_;exact xt ho3 af3 ()
theorem za8 {p:xsj} {name:Str} {r:Int} (h:za3 p name=some r):
  Pu prog 44 [.agg (xso p),.one (.str name)] (.one (.int .i64 r)):=by
 have F:=trivial;have R:=trivial
 refine pA func44 ?_;simp only[f44];unfold za3 at h;refine bi h fun ad h ab=>?_;refine tt ?_
 refine lX ab (fun|U,_=>⟨[(1,.one (.str name)),(2,.one (.ref 0 0 0 0)),(5,.one (.int .i64 (U:Int)))],[.cells 0 6 [(eP_ p)]]⟩) (fun|(.inl ai),_=>⟨[],[]⟩|(.inr ()),_=>⟨[],[.cells 0 6 [(eP_ p)]]⟩) (fun|(.inl _)=>none|(.inr _)=>some 0) ?_ ?_
 intro i3 b3 aa
 rcases ad with ae|⟨⟩
 cases aa;obtain rfl:=Wab aa;obtain⟨⟩:=b3;dsimp only at h|-;cases h;exact fin;intro af3 m3 U a3 o3 I ho3 ih3;obtain⟨⟩:=a3;dsimp only[zii]at I|-;refine tr ?_;intros;refine fl I F ?_ ?_<;>intro I _ F;refine bx I F fun aj I af F=>?_;refine tr ?_;intros;refine fi I F ?_ ?_<;>intro I _ F;cases I;obtain rfl:=sr ho3
 try dsimp only at h
 cases h;exact fin;cases I;refine tt ?_;refine wn U F fun F=>?_;exact bk ih3 ho3 ();cases I;refine tt ?_;exact xt ho3 af3 ()
theorem zcz {p:xsj} {name:Str} {r:Int} (h:zby p name=some r):
  Pu prog 45 [.agg (xso p),.one (.str name)] (.one (.int .i64 r)):=by
 have F:=trivial;have R:=trivial
 refine pA func45 ?_;simp only[f45];unfold zby at h;refine bi h fun ad h ab=>?_;refine tt ?_
 refine lX ab (fun|U,_=>⟨[(1,.one (.str name)),(2,.one (.ref 0 0 0 0)),(5,.one (.int .i64 (U:Int)))],[.cells 0 6 [(eP_ p)]]⟩) (fun|(.inl ai),_=>⟨[],[]⟩|(.inr ()),_=>⟨[],[.cells 0 6 [(eP_ p)]]⟩) (fun|(.inl _)=>none|(.inr _)=>some 0) ?_ ?_
 intro i3 b3 aa
 rcases ad with ae|⟨⟩
 cases aa;obtain rfl:=Wab aa;obtain⟨⟩:=b3;dsimp only at h|-;cases h;exact fin;intro af3 m3 U a3 o3 I ho3 ih3;obtain⟨⟩:=a3;dsimp only[zgl]at I|-;refine tr ?_;intros;refine fl I F ?_ ?_<;>intro I _ F;refine bx I F fun aj I af F=>?_;refine tr ?_;intros;refine fi I F ?_ ?_<;>intro I _ F;cases I;obtain rfl:=sr ho3
 try dsimp only at h
 cases h;exact fin;cases I;refine tt ?_;refine wn U F fun F=>?_;exact bk ih3 ho3 ();cases I;refine tt ?_;exact xt ho3 af3 ()
theorem zhn {p:xsj} {name:Str} {r:Int} (h:zdq p name=some r):
  Pu prog 47 [.agg (xso p),.one (.str name)] (.one (.int .i64 r)):=by
 have F:=trivial;have R:=trivial
 refine pA func47 ?_;simp only[f47];unfold zdq at h;refine bi h fun ad h ab=>?_;refine tt ?_
 refine lX ab (fun|U,_=>⟨[(1,.one (.str name)),(2,.one (.ref 0 0 0 0)),(5,.one (.int .i64 (U:Int)))],[.cells 0 6 [(eP_ p)]]⟩) (fun|(.inl ai),_=>⟨[],[]⟩|(.inr ()),_=>⟨[],[.cells 0 6 [(eP_ p)]]⟩) (fun|(.inl _)=>none|(.inr _)=>some 0) ?_ ?_
 intro i3 b3 aa
 rcases ad with ae|⟨⟩
 cases aa;obtain rfl:=Wab aa;obtain⟨⟩:=b3;dsimp only at h|-;cases h;exact fin;intro af3 m3 U a3 o3 I ho3 ih3;obtain⟨⟩:=a3;dsimp only[zho]at I|-;refine tr ?_;intros;refine fl I F ?_ ?_<;>intro I _ F;refine bx I F fun aj I af F=>?_;refine tr ?_;intros;refine fi I F ?_ ?_<;>intro I _ F;cases I;obtain rfl:=sr ho3
 try dsimp only at h
 cases h;exact fin;cases I;refine tt ?_;refine wn U F fun F=>?_;exact bk ih3 ho3 ();cases I;refine tt ?_;exact xt ho3 af3 ()
theorem zql {aa:xsj->xsk->Option Bool} {U:xsj->(List xsk)->Option Bool} {p:xsj} {e:xsk} {r:Bool}
  (ab:∀(x0:xsj) (x1:xsk) (r:Bool),aa x0 x1=some r->Pu prog 150 [.agg (xso x0),.agg (xsm x1)] (.one (.bool r)))
  (I:∀(x0:xsj) (x1:List xsk) (r:Bool),U x0 x1=some r->Pu prog 151 [.agg (xso x0),.one (.sl (x1.map xsm))] (.one (.bool r))) (h:zfc aa U p e=some r):
  Pu prog 150 [.agg (xso p),.agg (xsm e)] (.one (.bool r)):=by
 have F:=trivial;have R:=trivial
 refine pA func150 ?_;simp only[f150];unfold zfc at h;refine tt ?_;refine fi h F ?_ ?_<;>intro h _ F;refine bi h fun aq h ad=>?_;refine tr ?_;intros;refine cS (za8 ad) ?_;refine fi h F ?_ ?_<;>intro h _ F;cases h;exact fin;refine bi h fun ar h ae=>?_;refine tr ?_;intros;refine cS (I _ _ _ ae) ?_;cases h;exact fin;refine fi h F ?_ ?_<;>intro h _ F;refine bi h fun au h af=>?_;refine tr ?_
 intros;refine cS (za8 af) ?_;refine fi h F ?_ ?_<;>intro h _ F;cases h;exact fin;refine bi h fun av h ai=>?_;refine tr ?_;intros;refine cS (I _ _ _ ai) ?_;cases h;exact fin;refine fi h F ?_ ?_<;>intro h _ F;refine bi h fun aw h aj=>?_;refine tr ?_;intros;refine cS (zcz aj) ?_;refine fi h F ?_ ?_<;>intro h _ F;cases h;exact fin;refine bi h fun ax h ak=>?_;refine tr ?_;intros;refine cS (I _ _ _ ak) ?_
 cases h;exact fin;refine fi h F ?_ ?_<;>intro h _ F;refine bi h fun ay h al=>?_;refine tr ?_;intros;refine cS (zhn al) ?_;refine fi h F ?_ ?_<;>intro h _ F;cases h;exact fin;refine bi h fun az h an=>?_;refine tr ?_;intros;refine cS (I _ _ _ an) ?_;cases h;exact fin;refine bi h fun aA h ao=>?_;refine tr ?_;intros;refine cS (I _ _ _ ao) ?_;cases h;exact fin
theorem zpr {U:xsj->xsk->Option Bool} {I:xsj->(List xsk)->Option Bool} {p:xsj} {l:List xsk} {r:Bool}
  (aa:∀(x0:xsj) (x1:xsk) (r:Bool),U x0 x1=some r->Pu prog 150 [.agg (xso x0),.agg (xsm x1)] (.one (.bool r)))
  (ad:∀(x0:xsj) (x1:List xsk) (r:Bool),I x0 x1=some r->Pu prog 151 [.agg (xso x0),.one (.sl (x1.map xsm))] (.one (.bool r))) (h:zer U I p l=some r):
  Pu prog 151 [.agg (xso p),.one (.sl (l.map xsm))] (.one (.bool r)):=by
 have F:=trivial;have R:=trivial
 refine pA func151 ?_;simp only[f151];unfold zer at h;refine bi h fun ak h ai=>?_;refine tt ?_
 refine lX ai (fun|ae,_=>⟨[(1,.one (.sl (l.map xsm))),(2,.one (.ref 0 0 0 0)),(5,.one (.int .i64 (ae:Int)))],[.cells 0 6 [(eP_ p)]]⟩) (fun|(.inl ao),_=>⟨[],[]⟩|(.inr ()),_=>⟨[],[.cells 0 6 [(eP_ p)]]⟩) (fun|(.inl _)=>none|(.inr _)=>some 0) ?_ ?_
 intro i3 b3 af
 rcases ak with al|⟨⟩
 cases af;obtain rfl:=Wab af;obtain⟨⟩:=b3;dsimp only at h|-;cases h;exact fin;intro af3 m3 ae a3 o3 ab ho3 ih3;obtain⟨⟩:=a3;dsimp only[zgf]at ab|-;refine tr ?_;intros;refine fl ab F ?_ ?_<;>intro ab _ F;refine bx ab F fun aq ab an F=>?_;refine bi ab fun ar ab aj=>?_;refine tr ?_;intros;refine cD (aa _ _ _ aj) ?_;refine tr ?_;intros;refine fv ab F ?_ ?_<;>intro ab _ F;cases ab;refine tt ?_
 refine wn ae F fun F=>?_;exact bk ih3 ho3 ();cases ab;obtain rfl:=sr ho3
 try dsimp only at h
 cases h;exact fin;cases ab;refine tt ?_;exact xt ho3 af3 ()
theorem zlk (n:Nat):(∀(I:xsj) (U:xsk) (r:Bool),(zat n).1 I U=some r->Pu prog 150 [.agg (xso I),.agg (xsm U)] (.one (.bool r)))/\(∀(I:xsj) (U:List xsk) (r:Bool),(zat n).2 I U=some r->Pu prog 151 [.agg (xso I),.one (.sl (U.map xsm))] (.one (.bool r))):=by
 induction n with
 |zero=>exact⟨fun _ _ r h=>(by cases h),fun _ _ r h=>(by cases h)⟩
 |succ n ih=>
  obtain⟨aa,ih1⟩:=ih;exact⟨fun _ _ r h=>zql aa ih1 h,fun _ _ r h=>zpr aa ih1 h⟩
theorem zdc {p:xsj} {e:xsk} {r:Bool} (h:zcp p e=some r):Pu prog 150 [.agg (xso p),.agg (xsm e)] (.one (.bool r)):=(zlk 1000000).1 _ _ _ h
theorem zje {p:xsj} {l:List xsk} {r:Bool} (h:zfx p l=some r):Pu prog 151 [.agg (xso p),.one (.sl (l.map xsm))] (.one (.bool r)):=(zlk 1000000).2 _ _ _ h
theorem zpt {aa:xsj->(List xsl)->Option Bool} {p:xsj} {l:List xsl} {r:Bool}
  (U:∀(x0:xsj) (x1:List xsl) (r:Bool),aa x0 x1=some r->Pu prog 113 [.agg (xso x0),.one (.sl (x1.map xsp))] (.one (.bool r))) (h:zet aa p l=some r):
  Pu prog 113 [.agg (xso p),.one (.sl (l.map xsp))] (.one (.bool r)):=by
 have F:=trivial;have R:=trivial
 refine pA func113 ?_;simp only[f113];unfold zet at h;refine bi h fun aC h aw=>?_;refine tt ?_
 refine lX aw (fun|ab,_=>⟨[(1,.one (.sl (l.map xsp))),(2,.one (.ref 0 0 0 0)),(5,.one (.int .i64 (ab:Int)))],[.cells 0 6 [(eP_ p)]]⟩) (fun|(.inl aE),_=>⟨[],[]⟩|(.inr ()),_=>⟨[],[.cells 0 6 [(eP_ p)]]⟩) (fun|(.inl _)=>none|(.inr _)=>some 0) ?_ ?_
 intro i3 b3 av
 rcases aC with aD|⟨⟩
 cases av;obtain rfl:=Wab av;obtain⟨⟩:=b3;dsimp only at h|-;cases h;exact fin;intro af3 m3 ab a3 o3 I ho3 ih3;obtain⟨⟩:=a3;dsimp only[zgg]at I|-;refine tr ?_;intros;refine fl I F ?_ ?_<;>intro I _ F;refine bx I F fun aS I aF F=>?_;refine tr ?_;intros;refine fi I F ?_ ?_<;>intro I _ F;refine bi I fun aT I ax=>?_;refine tr ?_;intros;refine cS (za8 ax) ?_;refine fi I F ?_ ?_<;>intro I _ F
 cases I;obtain rfl:=sr ho3
 try dsimp only at h
 cases h;exact fin;refine tt ?_;refine fi I F ?_ ?_<;>intro I _ F;exact(by omega:False).elim;refine bi I fun aU I ay=>?_;refine tr ?_;intros;refine cS (zdc ay) ?_;refine fv I F ?_ ?_<;>intro I _ F;refine bi I fun aV I az=>?_;refine tr ?_;intros;refine cS (zdc az) ?_;refine fv I F ?_ ?_<;>intro I _ F;refine bi I fun aW I aA=>?_;refine tr ?_;intros;refine cS (zje aA) ?_;refine fv I F ?_ ?_<;>intro I _ F
 refine bi I fun aX I aB=>?_;refine tr ?_;intros;refine cS (U _ _ _ aB) ?_;refine fv I F ?_ ?_<;>intro I _ F;refine bi I fun aG I ad=>?_;refine tr ?_;intros;refine cS (U _ _ _ ad) ?_;refine fv I F ?_ ?_<;>intro I _ F;cases I;refine tt ?_;refine wn ab F fun F=>?_;exact bk ih3 ho3 ();cases I;obtain rfl:=sr ho3
 try dsimp only at h
 cases h;exact fin;cases I;obtain rfl:=sr ho3
 try dsimp only at h
 cases h;exact fin;cases I;obtain rfl:=sr ho3
 try dsimp only at h
 cases h;exact fin;cases I;obtain rfl:=sr ho3
 try dsimp only at h
 cases h;exact fin;cases I;obtain rfl:=sr ho3
 try dsimp only at h
 cases h;exact fin;refine fi I F ?_ ?_<;>intro I _ F;refine bi I fun aH I ae=>?_;refine tr ?_;intros;refine cS (zcz ae) ?_;refine fi I F ?_ ?_<;>intro I _ F;cases I;obtain rfl:=sr ho3
 try dsimp only at h
 cases h;exact fin;refine bi I fun aI I af=>?_;refine tr ?_;intros;refine cS (zdc af) ?_;refine fv I F ?_ ?_<;>intro I _ F;refine bi I fun aJ I ai=>?_;refine tr ?_;intros;refine cS (zdc ai) ?_;refine fv I F ?_ ?_<;>intro I _ F;refine bi I fun aK I aj=>?_;refine tr ?_;intros;refine cS (zje aj) ?_;refine fv I F ?_ ?_<;>intro I _ F;refine bi I fun aL I ak=>?_;refine tr ?_;intros;refine cS (U _ _ _ ak) ?_
 refine fv I F ?_ ?_<;>intro I _ F;refine bi I fun aM I al=>?_;refine tr ?_;intros;refine cS (U _ _ _ al) ?_;refine fv I F ?_ ?_<;>intro I _ F;cases I;refine tt ?_;refine wn ab F fun F=>?_;exact bk ih3 ho3 ();cases I;obtain rfl:=sr ho3
 try dsimp only at h
 cases h;exact fin;cases I;obtain rfl:=sr ho3
 try dsimp only at h
 cases h;exact fin;cases I;obtain rfl:=sr ho3
 try dsimp only at h
 cases h;exact fin;cases I;obtain rfl:=sr ho3
 try dsimp only at h
 cases h;exact fin;cases I;obtain rfl:=sr ho3
 try dsimp only at h
 cases h;exact fin;refine bi I fun aN I an=>?_;refine tr ?_;intros;refine cS (zdc an) ?_;refine fv I F ?_ ?_<;>intro I _ F;refine bi I fun aO I ao=>?_;refine tr ?_;intros;refine cS (zdc ao) ?_;refine fv I F ?_ ?_<;>intro I _ F;refine bi I fun aP I aq=>?_;refine tr ?_;intros;refine cS (zje aq) ?_;refine fv I F ?_ ?_<;>intro I _ F;refine bi I fun aQ I ar=>?_;refine tr ?_;intros;refine cS (U _ _ _ ar) ?_
 refine fv I F ?_ ?_<;>intro I _ F;refine bi I fun aR I au=>?_;refine tr ?_;intros;refine cS (U _ _ _ au) ?_;refine fv I F ?_ ?_<;>intro I _ F;cases I;refine tt ?_;refine wn ab F fun F=>?_;exact bk ih3 ho3 ();cases I;obtain rfl:=sr ho3
 try dsimp only at h
 cases h;exact fin;cases I;obtain rfl:=sr ho3
 try dsimp only at h
 cases h;exact fin;cases I;obtain rfl:=sr ho3
 try dsimp only at h
 cases h;exact fin;cases I;obtain rfl:=sr ho3
 try dsimp only at h
 cases h;exact fin;cases I;obtain rfl:=sr ho3
 try dsimp only at h
 cases h;exact fin;cases I;refine tt ?_;exact xt ho3 af3 ()
theorem zps (n:Nat):(∀(I:xsj) (U:List xsl) (r:Bool),(zes n) I U=some r->Pu prog 113 [.agg (xso I),.one (.sl (U.map xsp))] (.one (.bool r))):=by
 induction n with
 |zero=>exact fun _ _ r h=>(by cases h)
 |succ n ih=>
  have aa:=ih
  exact fun _ _ r h=>zpt aa h
theorem zrt {p:xsj} {l:List xsl} {r:Bool} (h:zky p l=some r):Pu prog 113 [.agg (xso p),.one (.sl (l.map xsp))] (.one (.bool r)):=(zps 1000000) _ _ _ h
end Go.Lz

end
