/- The parts of a proof: V140 -/
import Derived.Test.YtcceddpmmgabjaaGreatQt4
set_option linter.unusedVariables false
set_option linter.unusedSimpArgs false
open Go.Proofs.Tryz
section
namespace Go.Lz
open Go.Proofs
attribute [-go_sem] zl6 g_b gd_b
set_option maxRecDepth 100000
set_option maxHeartbeats 4000000
noncomputable section
def zd4 (I:xtn->Int->Int->Option Int) (e:xtn) (deep:Int):(Int×Nat)->Option ((Int×Nat)⊕(Int))
 |(U,aa)=>if(aa:Int)<(e.Args.length:Int)then(if 0<=U then((e.Args[aa]?).bind fun ab=>(I ab (w64 (deep-1)) U).bind fun ad=>some (.inl (ad,(aa+1))))else(some (.inr (U))))else(some (.inr (U)))
def zgq (I:xtn->Int->Int->Option Int) (e:xtn) (deep:Int) (left:Int):Option Int:=
 if deep<1 then(some (-1))else(if(w64 (left-(w64 ((w64 (1+(e.Args.length:Int)))+(w64 ((e.Name.length:Int).tdiv 100))))))<0 then(some (-1))else((loop (zd4 I e deep) ((w64 (left-(w64 ((w64 (1+(e.Args.length:Int)))+(w64 ((e.Name.length:Int).tdiv 100)))))),0)).bind (fun U=>some U)))
def zde:Nat->(xtn->Int->Int->Option Int)
 |0=>fun _ _ _=>none
 |n+1=>zgq (zde n)
def zv8 (n:Nat) (e:xtn) (deep:Int) (left:Int):Option Int:=(zde n) e deep left
def zdh (e:xtn) (deep:Int) (left:Int):Option Int:=zv8 1000000 e deep left
def zk3 (I:(List xtp)->Int->Int->Option Int) (l:List xtp) (deep:Int):(Int×Nat)->Option ((Int×Nat)⊕(Int))
 |(U,aa)=>if(aa:Int)<(l.length:Int)then(if 0<=U then((l[aa]?).bind fun ab=>(zdh ab.Target 60 (w64 (U-(w64 ((ab.Name.length:Int).tdiv 100))))).bind fun ad=>if 0<=ad then((zdh ab.Value 60 ad).bind fun ae=>if 0<=ae then((zdh (⟨0,0,0,[],ab.Args⟩:xtn) 60 ae).bind fun af=>if 0<=af then((I ab.Body (w64 (deep-1)) af).bind fun ai=>if 0<=ai then((I ab.Else (w64 (deep-1)) ai).bind fun aj=>some (.inl (aj,(aa+1))))else(some (.inl (ai,(aa+1)))))else(some (.inl (af,(aa+1)))))else(some (.inl (ae,(aa+1)))))else(some (.inl (ad,(aa+1)))))else(some (.inr (U))))else(some (.inr (U)))
def zb7 (I:(List xtp)->Int->Int->Option Int) (l:List xtp) (deep:Int):(Int×Nat)->Option ((Int×Nat)⊕(Int))
 |(U,aa)=>if(aa:Int)<(l.length:Int)then(if 0<=U then((l[aa]?).bind fun ab=>(zdh ab.Target 60 (w64 (U-(w64 ((ab.Name.length:Int).tdiv 100))))).bind fun ad=>if 0<=ad then((zdh ab.Value 60 ad).bind fun ae=>if 0<=ae then((zdh (⟨0,0,0,[],ab.Args⟩:xtn) 60 ae).bind fun af=>if 0<=af then((I ab.Body (w64 (deep-1)) af).bind fun ai=>if 0<=ai then((I ab.Else (w64 (deep-1)) ai).bind fun aj=>some (.inl (aj,(aa+1))))else(some (.inl (ai,(aa+1)))))else(some (.inl (af,(aa+1)))))else(some (.inl (ae,(aa+1)))))else(some (.inl (ad,(aa+1)))))else(some (.inr (U))))else(some (.inr (U)))
def zel (I:(List xtp)->Int->Int->Option Int) (l:List xtp) (deep:Int) (left:Int):Option Int:=
 if 0<(l.length:Int)then(if deep<1 then(some (-1))else(if(w64 (left-(l.length:Int)))<0 then(some (-1))else((loop (zb7 I l deep) ((w64 (left-(l.length:Int))),0)).bind (fun aa=>some aa))))else(if(w64 (left-(l.length:Int)))<0 then(some (-1))else((loop (zk3 I l deep) ((w64 (left-(l.length:Int))),0)).bind (fun U=>some U)))
def zbu:Nat->((List xtp)->Int->Int->Option Int)
 |0=>fun _ _ _=>none
 |n+1=>zel (zbu n)
def zv7 (n:Nat) (l:List xtp) (deep:Int) (left:Int):Option Int:=(zbu n) l deep left
def zmz (l:List xtp) (deep:Int) (left:Int):Option Int:=zv7 1000000 l deep left
def zc3 (p:xtm):Nat->Option ((Nat)⊕(Int⊕Unit))
 |I=>if(I:Int)<(p.Tasks.length:Int)then((p.Tasks[I]?).bind fun U=>if 100<(U.Budget.length:Int)then(some (.inr (.inl (0))))else((zmz U.Body 60 2000).bind fun aa=>if aa<0 then(some (.inr (.inl (0))))else(some (.inl (I+1)))))else(some (.inr (.inr (()))))
def zeg (p:xtm):Option Int:=
 if 500<(w64 ((w64 ((w64 ((w64 ((p.Lattice.Names.length:Int)+(p.Lattice.Below.length:Int)))+(p.Sites.length:Int)))+(p.Vars.length:Int)))+(p.Blocks.length:Int)))then(some 0)else(if 10<(p.Tasks.length:Int)then(some 0)else((loop (zc3 p) 0).bind (fun I=>match I with|(.inl U)=>some U|(.inr ())=>some 1)))
def zdz (c:Int):Option Bool:=
 if 97<=c then(if c<=122 then(some true)else(if 65<=c then(if c<=90 then(some true)else(some (decide (c=95))))else(some (decide (c=95)))))else(if 65<=c then(if c<=90 then(some true)else(some (decide (c=95))))else(some (decide (c=95))))
def zgj (c:Int):Option Bool:=
 if 48<=c then(some (decide (c<=57)))else(some false)
def zk2 (s:Str):Nat->Option ((Nat)⊕(Nat))
 |I=>if(I:Int)<(s.length:Int)then((s[I]?).bind fun U=>(zdz (U.toNat:Int)).bind fun aa=>if aa=true then(some (.inl (I+1)))else((zgj (U.toNat:Int)).bind fun ab=>if ab=true then(some (.inl (I+1)))else(some (.inr (I)))))else(some (.inr (I)))
def ziy (s:Str):Option Int:=
 if s=[]then(some 0)else((s[0]?).bind fun I=>(zdz (I.toNat:Int)).bind fun U=>if U=true then((loop (zk2 s) 1).bind (fun aa=>some (aa:Int)))else(some 0))
def zjz (s:Str) (names:Str):(Int×Nat)->Option ((Int×Nat)⊕(Bool⊕Unit))
 |(U,I)=>if(I:Int)<=(names.length:Int)then(if(I:Int)=(names.length:Int)then(if U<(I:Int)then(need (0<=U/\U<=(I:Int)/\(I:Int)<=names.length) (if((names.take I).drop U.toNat)=s then(some (.inr (.inl (true))))else(some (.inl ((w64 ((I:Int)+1)),(I+1))))))else(some (.inl ((w64 ((I:Int)+1)),(I+1)))))else((names[I]?).bind fun aa=>if(aa.toNat:Int)=32 then(if U<(I:Int)then(need (0<=U/\U<=(I:Int)/\(I:Int)<=names.length) (if((names.take I).drop U.toNat)=s then(some (.inr (.inl (true))))else(some (.inl ((w64 ((I:Int)+1)),(I+1))))))else(some (.inl ((w64 ((I:Int)+1)),(I+1)))))else(some (.inl (U,(I+1))))))else(some (.inr (.inr (()))))
def zej (s:Str) (names:Str):Option Bool:=
 (loop (zjz s names) (0,0)).bind (fun I=>match I with|(.inl U)=>some U|(.inr ())=>some false)
def zhw (s:Str):Option Bool:=
 (zej s ([65,78,68,32,65,82,82,65,89,32,65,84,32,66,76,79,67,75,32,66,79,79,76,32,66,85,68,71,69,84,32,67,84,68,32,67,84,85,32,67,84,85,68,32,68,69,67,76,65,83,83,73,70,89,32,68,73,78,84,32,68,79,32,69,76,83,69,32,69,78,68,32,69,78,68,95,70,79,82,32,69,78,68,95,73,70,32,69,78,68,95,87,72,73,76,69,32,69,86,69,82,89,32,70,65,76,83,69,32,70,79,82,32,70,95,84,82,73,71,32,73,70,32,73,78,80,85,84,32,73,78,84,32,76,65,66,69,76,32,77,79,68,32,78,79,84,32,79,70,32,79,82,32,79,85,84,80,85,84,32,80,82,73,79,82,73,84,89,32,82,83,32,82,95,84,82,73,71,32,83,73,84,69,32,83,82,32,84,65,83,75,32,84,72,69,78,32,84,73,77,69,32,84,79,32,84,79,70,32,84,79,78,32,84,80,32,84,82,85,69,32,86,65,82,32,87,72,73,76,69,32,88,79,82]:Str)).bind fun I=>some I
def zjy:((List Int)×Nat)->Option (((List Int)×Nat)⊕(List Int))
 |(I,U)=>if(U:Int)<(I.length:Int)then((I[U]?).bind fun aa=>if 97<=aa then(if aa<=122 then(some (.inl ((I.set U (IntKind.u8.wrap (aa-32))),(U+1))))else(some (.inl (I,(U+1)))))else(some (.inl (I,(U+1)))))else(some (.inr (I)))
def zgi (s:Str):Option Str:=
 (loop (zjy) ((zwd s),0)).bind (fun I=>some (ygh I))
def zaw (s:Str):Option Bool:=
 if s=[]then(some false)else(if(s.length:Int)<=32 then((ziy s).bind fun I=>if I=(s.length:Int)then((zgi s).bind fun U=>(zhw U).bind fun aa=>some (!aa))else(some false))else(some false))
def zkf (l:List Str) (name:Str):Nat->Option ((Nat)⊕(Int⊕Unit))
 |I=>if(I:Int)<(l.length:Int)then((l[I]?).bind fun U=>if U=name then(some (.inr (.inl ((I:Int)))))else(some (.inl (I+1))))else(some (.inr (.inr (()))))
def zhq (l:List Str) (name:Str):Option Int:=
 (loop (zkf l name) 0).bind (fun I=>match I with|(.inl U)=>some U|(.inr ())=>some (-1))
def zbb (l:xtq) (a:Int):Option Bool:=
 if 0<=a then(some (decide (a<(l.Names.length:Int))))else(some false)
def zbc (p:xtm) (n:Int):Option Bool:=
 (zbb p.Lattice n).bind fun I=>some I
def zba (kind:Int):Option Int:=
 if kind=1 then(some 1)else(if kind=2 then(some 16)else(if kind=3 then(some 32)else(if kind=4 then(some 32)else(some 0))))
def zbm (kind:Int):Option Int:=
 if kind=2 then(some 32768)else(some 2147483648)
def zbs (kind:Int) (n:Int):Option Bool:=
 if kind=1 then(if n=0 then(some true)else(some (decide (n=1))))else((zba kind).bind fun I=>if 0<I then((zbm kind).bind fun U=>if(w64 (0-U))<=n then((zbm kind).bind fun aa=>some (decide (n<aa)))else(some false))else(some false))
def zbr (t:xt3):Option Int:=
 (zba t.Kind).bind fun I=>if I=0 then(some 6)else(if t.Len<0 then(some 6)else(if 32<t.Len then(some 6)else(if t.Len=0 then(if t.Low=0 then(if t.Low<(-32768)then(some 6)else(if 32767<t.Low then(some 6)else(some 0)))else(some 6))else(if t.Low<(-32768)then(some 6)else(if 32767<t.Low then(some 6)else(some 0))))))
def zea (p:xtm) (v:xtv):Option Bool:=
 (zaw v.Name).bind fun I=>if I=true then((zbr v.Type_).bind fun U=>if U=0 then(if v.Mode=0 then(if v.Safe=0 then(if v.Label=(-1)then(if v.Type_.Len=0 then(some true)else(some (decide (v.Type_.Low<=(w64 (32768-v.Type_.Len))))))else((zbc p v.Label).bind fun aa=>if aa=true then(if v.Type_.Len=0 then(some true)else(some (decide (v.Type_.Low<=(w64 (32768-v.Type_.Len))))))else(some false)))else(some false))else(if v.Mode=1 then(if v.Safe=0 then((zbc p v.Label).bind fun ab=>if ab=true then(some (decide (v.Type_.Len=0)))else(some false))else(some false))else(if v.Mode=2 then((zbc p v.Label).bind fun ad=>if ad=true then(if v.Type_.Len=0 then((zbs v.Type_.Kind v.Safe).bind fun ae=>some ae)else(some false))else(some false))else(some false))))else(some false))else(some false)
def zg4 (p:xtm):Nat->Option ((Nat)⊕(Bool⊕Unit))
 |I=>if(I:Int)<(p.Blocks.length:Int)then((p.Blocks[I]?).bind fun U=>(zaw U.Name).bind fun aa=>if aa=true then((zej U.Kind ([67,84,68,32,67,84,85,32,67,84,85,68,32,70,95,84,82,73,71,32,82,83,32,82,95,84,82,73,71,32,83,82,32,84,79,70,32,84,79,78,32,84,80]:Str)).bind fun ab=>if ab=true then((zbc p U.Label).bind fun ad=>if ad=true then(some (.inl (I+1)))else(some (.inr (.inl (false)))))else(some (.inr (.inl (false)))))else(some (.inr (.inl (false)))))else(some (.inr (.inr (()))))
def zg5 (p:xtm):Nat->Option ((Nat)⊕(Bool⊕Unit))
 |I=>if(I:Int)<(p.Vars.length:Int)then((p.Vars[I]?).bind fun U=>(zea p U).bind fun aa=>if aa=true then(some (.inl (I+1)))else(some (.inr (.inl (false)))))else(some (.inr (.inr (()))))
def zg6 (p:xtm):Nat->Option ((Nat)⊕(Bool⊕Unit))
 |I=>if(I:Int)<(p.Sites.length:Int)then((p.Sites[I]?).bind fun U=>(zaw U.Name).bind fun aa=>if aa=true then((zbc p U.From).bind fun ab=>if ab=true then((zbc p U.To).bind fun ad=>if ad=true then(some (.inl (I+1)))else(some (.inr (.inl (false)))))else(some (.inr (.inl (false)))))else(some (.inr (.inl (false)))))else(some (.inr (.inr (()))))
def zg7 (p:xtm):Nat->Option ((Nat)⊕(Bool⊕Unit))
 |I=>if(I:Int)<(p.Lattice.Below.length:Int)then((p.Lattice.Below[I]?).bind fun U=>(zbc p U.a0).bind fun aa=>if aa=true then((zbc p U.a1).bind fun ab=>if ab=true then(some (.inl (I+1)))else(some (.inr (.inl (false)))))else(some (.inr (.inl (false)))))else(some (.inr (.inr (()))))
def zg8 (p:xtm):Nat->Option ((Nat)⊕(Bool⊕Unit))
 |I=>if(I:Int)<(p.Lattice.Names.length:Int)then((p.Lattice.Names[I]?).bind fun U=>(zaw U).bind fun aa=>if aa=true then((zhq p.Lattice.Names U).bind fun ab=>if ab=(I:Int)then(some (.inl (I+1)))else(some (.inr (.inl (false)))))else(some (.inr (.inl (false)))))else(some (.inr (.inr (()))))
def zgf (p:xtm):Option Bool:=
 if 8<(p.Lattice.Names.length:Int)then(some false)else(if 8<(p.Sites.length:Int)then(some false)else(if 48<(p.Vars.length:Int)then(some false)else(if 12<(p.Blocks.length:Int)then(some false)else(if 4<(p.Tasks.length:Int)then(some false)else(if 16384<(p.Lattice.Below.length:Int)then(some false)else((loop (zg8 p) 0).bind (fun I=>match I with|(.inl ae)=>some ae|(.inr ())=>(loop (zg7 p) 0).bind (fun I=>match I with|(.inl U)=>some U|(.inr ())=>(loop (zg6 p) 0).bind (fun I=>match I with|(.inl aa)=>some aa|(.inr ())=>(loop (zg5 p) 0).bind (fun I=>match I with|(.inl ab)=>some ab|(.inr ())=>(loop (zg4 p) 0).bind (fun I=>match I with|(.inl ad)=>some ad|(.inr ())=>some true)))))))))))
def zcz (e:xtn):Option Bool:=
 if e.Op=1 then(if 0<=e.N then(if e.Kind=1 then(if e.N<=1 then(if(e.Args.length:Int)=0 then(some (decide (e.Name=[])))else(some false))else(if e.Kind=2 then none else(if e.Kind=3 then none else(if e.Kind=4 then none else(some false)))))else(if e.Kind=2 then(if e.N<=32767 then(if(e.Args.length:Int)=0 then(some (decide (e.Name=[])))else(some false))else(if e.Kind=3 then none else(if e.Kind=4 then none else(some false))))else(if e.Kind=3 then(if e.N<=2147483647 then(if(e.Args.length:Int)=0 then(some (decide (e.Name=[])))else(some false))else(some false))else(if e.Kind=4 then(if e.N<=2147483647 then(if(e.Args.length:Int)=0 then(some (decide (e.Name=[])))else(some false))else(some false))else(some false)))))else(some false))else(if e.Kind=0 then(if e.Op=2 then(if(e.Args.length:Int)=0 then(if e.N=0 then((zaw e.Name).bind fun I=>some I)else(some false))else(some false))else(if e.Op=4 then(if(e.Args.length:Int)=0 then(if 0<=e.N then(if e.N<=9 then((zaw e.Name).bind fun U=>some U)else(some false))else(some false))else(some false))else(if e.Op=3 then(if(e.Args.length:Int)=1 then(if e.N=0 then((zaw e.Name).bind fun aa=>some aa)else(some false))else(some false))else(if e.Op=21 then(if(e.Args.length:Int)=1 then(if e.N=0 then((zaw e.Name).bind fun ab=>some ab)else(some false))else(some false))else(if e.Op=5 then(if(e.Args.length:Int)=1 then(if e.N=0 then(some (decide (e.Name=[])))else(some false))else(some false))else(if e.Op=6 then(if(e.Args.length:Int)=1 then(if e.N=0 then(some (decide (e.Name=[])))else(some false))else(some false))else(if 7<=e.Op then(if e.Op<=20 then(if(e.Args.length:Int)=2 then(if e.N=0 then(some (decide (e.Name=[])))else(some false))else(some false))else(some false))else(some false))))))))else(some false))
def zjx (I:xtn->Int->Int->Option Int) (e:xtn) (deep:Int):(Int×Nat)->Option ((Int×Nat)⊕(Int))
 |(U,aa)=>if(aa:Int)<(e.Args.length:Int)then(if 0<=U then((e.Args[aa]?).bind fun ab=>(I ab (w64 (deep-1)) U).bind fun ad=>some (.inl (ad,(aa+1))))else(some (.inr (U))))else(some (.inr (U)))
def zey (I:xtn->Int->Int->Option Int) (e:xtn) (deep:Int) (left:Int):Option Int:=
 if deep<1 then(some (-1))else(if left<0 then(some (-1))else((zcz e).bind fun U=>if U=true then((loop (zjx I e deep) ((w64 (left-1)),0)).bind (fun aa=>some aa))else(some (-1))))
def zdm:Nat->(xtn->Int->Int->Option Int)
 |0=>fun _ _ _=>none
 |n+1=>zey (zdm n)
def zuc (n:Nat) (e:xtn) (deep:Int) (left:Int):Option Int:=(zdm n) e deep left
def zll (e:xtn) (deep:Int) (left:Int):Option Int:=zuc 1000000 e deep left
def zi7:(Int×Str)->Option ((Int×Str)⊕(Int×Str))
 |(I,U)=>if 10<=I then(need (0<=(I.tmod 10)/\(I.tmod 10)<=(w64 ((I.tmod 10)+1))/\(w64 ((I.tmod 10)+1))<=10) (need (((([48,49,50,51,52,53,54,55,56,57]:Str).take (w64 ((I.tmod 10)+1)).toNat).drop (I.tmod 10).toNat).length+U.length<=281474976710656) (some (.inl ((w64 (I.tdiv 10)),(((([48,49,50,51,52,53,54,55,56,57]:Str).take (w64 ((I.tmod 10)+1)).toNat).drop (I.tmod 10).toNat)++U))))))else(some (.inr ((I,U))))
def zax (n:Int):Option Str:=
 (loop (zi7) (n,[])).bind (fun(I,U)=>need (0<=I/\I<=(w64 (I+1))/\(w64 (I+1))<=10) (need (((([48,49,50,51,52,53,54,55,56,57]:Str).take (w64 (I+1)).toNat).drop I.toNat).length+U.length<=281474976710656) (some (((([48,49,50,51,52,53,54,55,56,57]:Str).take (w64 (I+1)).toNat).drop I.toNat)++U))))
def zdd (op:Int):Option Int:=
 if op=20 then(some 1)else(if op=19 then(some 2)else(if op=18 then(some 3)else(if 12<=op then(if op<=17 then(some 4)else(if op=10 then(some 5)else(if op=11 then(some 5)else(if 7<=op then(if op<=9 then(some 6)else(if op=5 then(some 7)else(if op=6 then(some 7)else(some 8))))else(if op=5 then(some 7)else(if op=6 then(some 7)else(some 8)))))))else(if op=10 then(some 5)else(if op=11 then(some 5)else(if 7<=op then(if op<=9 then(some 6)else(if op=5 then(some 7)else(if op=6 then(some 7)else(some 8))))else(if op=5 then(some 7)else(if op=6 then(some 7)else(some 8)))))))))
def zgh (level:Int):Option (Str×Int):=
 if level=1 then(some (([79,82]:Str),20))else(if level=2 then(some (([88,79,82]:Str),19))else(if level=3 then(some (([65,78,68]:Str),18))else(if level=4 then(some (([61,32,60,62,32,60,32,60,61,32,62,32,62,61]:Str),12))else(if level=5 then(some (([43,32,45]:Str),10))else(some (([42,32,47,32,77,79,68]:Str),7))))))
def zkk (op:Int) (aa:Str×Int):(Int×Int×Nat)->Option ((Int×Int×Nat)⊕(Str⊕Unit))
 |(ab,I,U)=>if(U:Int)<=(aa.1.length:Int)then(if(U:Int)=(aa.1.length:Int)then(if ab=op then(need (0<=I/\I<=(U:Int)/\(U:Int)<=aa.1.length) (some (.inr (.inl (((aa.1.take U).drop I.toNat))))))else(some (.inl ((w64 (ab+1)),(w64 ((U:Int)+1)),(U+1)))))else((aa.1[U]?).bind fun ad=>if(ad.toNat:Int)=32 then(if ab=op then(need (0<=I/\I<=(U:Int)/\(U:Int)<=aa.1.length) (some (.inr (.inl (((aa.1.take U).drop I.toNat))))))else(some (.inl ((w64 (ab+1)),(w64 ((U:Int)+1)),(U+1)))))else(some (.inl (ab,I,(U+1))))))else(some (.inr (.inr (()))))
def zhv (op:Int):Option Str:=
 (zdd op).bind fun aa=>(zgh aa).bind fun I=>(loop (zkk op I) (I.2,0,0)).bind (fun ab=>match ab with|(.inl U)=>some U|(.inr ())=>some [])
def zfo (U:xtn->Option Str) (I:xtn->Int->Option Str) (e:xtn):Option Str:=
 if e.Op=1 then(if e.Kind=1 then(if e.N=1 then(some ([84,82,85,69]:Str))else(some ([70,65,76,83,69]:Str)))else(if e.Kind=3 then((zax e.N).bind fun af=>need (af.length+5<=281474976710656) (need (af.length+6<=281474976710656) (some ((([68,73,78,84,40]:Str)++af)++([41]:Str)))))else(if e.Kind=4 then((zax e.N).bind fun ai=>need (ai.length+5<=281474976710656) (need (ai.length+6<=281474976710656) (some ((([84,73,77,69,40]:Str)++ai)++([41]:Str)))))else((zax e.N).bind fun ay=>some ay))))else(if e.Op=2 then(some e.Name)else(if e.Op=4 then(need (e.Name.length+1<=281474976710656) ((zax e.N).bind fun ao=>need (e.Name.length+ao.length+1<=281474976710656) (some ((e.Name++([46]:Str))++ao))))else(if e.Op=3 then(need (e.Name.length+1<=281474976710656) ((e.Args[0]?).bind fun aq=>(U aq).bind fun ad=>need (e.Name.length+ad.length+1<=281474976710656) (need (e.Name.length+ad.length+2<=281474976710656) (some (((e.Name++([91]:Str))++ad)++([93]:Str))))))else(if e.Op=21 then(need (e.Name.length+11<=281474976710656) (need (e.Name.length+13<=281474976710656) ((e.Args[0]?).bind fun ar=>(U ar).bind fun ae=>need (e.Name.length+ae.length+13<=281474976710656) (need (e.Name.length+ae.length+14<=281474976710656) (some ((((([68,69,67,76,65,83,83,73,70,89,40]:Str)++e.Name)++([44,32]:Str))++ae)++([41]:Str)))))))else(if e.Op=5 then((e.Args[0]?).bind fun au=>(I au 7).bind fun aj=>need (aj.length+1<=281474976710656) (some (([45]:Str)++aj)))else(if e.Op=6 then((e.Args[0]?).bind fun av=>(I av 7).bind fun ak=>need (ak.length+4<=281474976710656) (some (([78,79,84,32]:Str)++ak)))else((zdd e.Op).bind fun al=>(e.Args[0]?).bind fun aw=>(I aw al).bind fun aa=>need (aa.length+1<=281474976710656) ((zhv e.Op).bind fun ab=>need (aa.length+ab.length+1<=281474976710656) (need (aa.length+ab.length+2<=281474976710656) ((e.Args[1]?).bind fun ax=>(I ax (w64 (al+1))).bind fun an=>need (aa.length+ab.length+an.length+2<=281474976710656) (some ((((aa++([32]:Str))++ab)++([32]:Str))++an))))))))))))
def zfp (I:xtn->Option Str) (U:xtn->Int->Option Str) (e:xtn) (least:Int):Option Str:=
 (zdd e.Op).bind fun ab=>if ab<least then((I e).bind fun aa=>need (aa.length+1<=281474976710656) (need (aa.length+2<=281474976710656) (some ((([40]:Str)++aa)++([41]:Str)))))else((I e).bind fun ad=>some ad)
def za2:Nat->(xtn->Option Str)×(xtn->Int->Option Str)
 |0=>(fun _=>none,fun _ _=>none)
 |n+1=>(zfo (za2 n).1 (za2 n).2,zfp (za2 n).1 (za2 n).2)
def zu8 (n:Nat) (e:xtn):Option Str:=(za2 n).1 e
def zhu (e:xtn):Option Str:=zu8 1000000 e
def zas (e:xtn):Option Bool:=
 (zll e 24 16384).bind fun I=>if 0<=I then((zhu e).bind fun U=>some (decide ((U.length:Int)<=16384)))else(some false)
def zfl (e:xtn):Option Bool:=
 if e.Op=2 then((zas e).bind fun I=>some I)else(if e.Op=3 then(if(e.Args.length:Int)=1 then(if e.N=0 then(if e.Kind=0 then((zaw e.Name).bind fun U=>if U=true then((e.Args[0]?).bind fun aa=>(zas aa).bind fun ab=>some ab)else(some false))else(some false))else(some false))else(some false))else(some false))
def zez (I:xtn->xtn->Option Bool) (a:xtn) (b:xtn):Nat->Option ((Nat)⊕(Bool⊕Unit))
 |U=>if(U:Int)<(a.Args.length:Int)then((a.Args[U]?).bind fun aa=>(b.Args[U]?).bind fun ab=>(I aa ab).bind fun ad=>if ad=true then(some (.inl (U+1)))else(some (.inr (.inl (false)))))else(some (.inr (.inr (()))))
def zc0 (I:xtn->xtn->Option Bool) (a:xtn) (b:xtn):Option Bool:=
 if a.Op=b.Op then(if a.N=b.N then(if a.Kind=b.Kind then(if a.Name=b.Name then(if(a.Args.length:Int)=(b.Args.length:Int)then((loop (zez I a b) 0).bind (fun U=>match U with|(.inl aa)=>some aa|(.inr ())=>some true))else(some false))else(some false))else(some false))else(some false))else(some false)
def zdy:Nat->(xtn->xtn->Option Bool)
 |0=>fun _ _=>none
 |n+1=>zc0 (zdy n)
def zu9 (n:Nat) (a:xtn) (b:xtn):Option Bool:=(zdy n) a b
def zdw (a:xtn) (b:xtn):Option Bool:=zu9 1000000 a b
def zav (e:xtn):Option Bool:=
 (zdw e (⟨0,0,0,[],[]⟩:xtn)).bind fun I=>some I
def zkj (l:List xtn):Nat->Option ((Nat)⊕(Bool⊕Unit))
 |I=>if(I:Int)<(l.length:Int)then((l[I]?).bind fun U=>(zas U).bind fun aa=>if aa=true then(some (.inl (I+1)))else(some (.inr (.inl (false)))))else(some (.inr (.inr (()))))
def zcy (l:List xtn):Option Bool:=
 (loop (zkj l) 0).bind (fun I=>match I with|(.inl U)=>some U|(.inr ())=>some true)
def zcx (s:xtp):Option Bool:=
 if(s.Body.length:Int)=0 then(if s.Kind=1 then(if(s.Else.length:Int)=0 then(if s.Name=[]then(if(s.Args.length:Int)=0 then((zfl s.Target).bind fun aq=>if aq=true then((zas s.Value).bind fun ar=>some ar)else(some false))else(some false))else(some false))else(some false))else(if s.Kind=2 then(if s.Name=[]then(if(s.Args.length:Int)=0 then((zav s.Target).bind fun au=>if au=true then((zas s.Value).bind fun av=>some av)else(some false))else(some false))else(some false))else(if s.Kind=3 then(if s.Name=[]then(if(s.Args.length:Int)=0 then(if(s.Else.length:Int)=0 then((zav s.Target).bind fun aw=>if aw=true then((zas s.Value).bind fun ax=>some ax)else(some false))else(some false))else(some false))else(some false))else(if s.Kind=4 then((zaw s.Name).bind fun ay=>if ay=true then(if(s.Args.length:Int)=2 then((zcy s.Args).bind fun az=>if az=true then(if(s.Else.length:Int)=0 then((zav s.Target).bind fun aA=>if aA=true then((zav s.Value).bind fun I=>some I)else(some false))else(some false))else(some false))else(some false))else(some false))else(if s.Kind=5 then(if(s.Else.length:Int)=0 then((zaw s.Name).bind fun U=>if U=true then((zav s.Target).bind fun aa=>if aa=true then((zav s.Value).bind fun ab=>if ab=true then(if(s.Args.length:Int)<=16384 then((zcy s.Args).bind fun ad=>some ad)else(some false))else(some false))else(some false))else(some false))else(some false))else(some false))))))else(if s.Kind=1 then(some false)else(if s.Kind=2 then(if s.Name=[]then(if(s.Args.length:Int)=0 then((zav s.Target).bind fun ae=>if ae=true then((zas s.Value).bind fun af=>some af)else(some false))else(some false))else(some false))else(if s.Kind=3 then(if s.Name=[]then(if(s.Args.length:Int)=0 then(if(s.Else.length:Int)=0 then((zav s.Target).bind fun ai=>if ai=true then((zas s.Value).bind fun aj=>some aj)else(some false))else(some false))else(some false))else(some false))else(if s.Kind=4 then((zaw s.Name).bind fun ak=>if ak=true then(if(s.Args.length:Int)=2 then((zcy s.Args).bind fun al=>if al=true then(if(s.Else.length:Int)=0 then((zav s.Target).bind fun an=>if an=true then((zav s.Value).bind fun ao=>some ao)else(some false))else(some false))else(some false))else(some false))else(some false))else(if s.Kind=5 then(some false)else(some false))))))
def za8 (e:xtn):Option Str:=
 (zas e).bind fun I=>if I=true then((zhu e).bind fun U=>some U)else(some [])
def zgg (e:xtn):Option Str:=
 if e.Op=3 then((e.Args[0]?).bind fun U=>(za8 U).bind fun I=>need (I.length+1<=281474976710656) (need (I.length+2<=281474976710656) (some ((([91]:Str)++I)++([93]:Str)))))else(some [])
def zkh (s:xtp):(Str×Nat)->Option ((Str×Nat)⊕(Str))
 |(I,U)=>if(U:Int)<(s.Args.length:Int)then(if 0<(U:Int)then(need (I.length+2<=281474976710656) ((s.Args[U]?).bind fun ad=>(za8 ad).bind fun aa=>need (I.length+aa.length+2<=281474976710656) (some (.inl (((I++([44,32]:Str))++aa),(U+1))))))else((s.Args[U]?).bind fun ae=>(za8 ae).bind fun ab=>need (I.length+ab.length<=281474976710656) (some (.inl ((I++ab),(U+1))))))else(some (.inr (I)))
def zcw (s:xtp):Option Str:=
 if s.Kind=1 then((za8 (⟨2,0,0,s.Target.Name,[]⟩:xtn)).bind fun U=>(zgg s.Target).bind fun aa=>need (U.length+aa.length<=281474976710656) (need (U.length+aa.length+4<=281474976710656) ((za8 s.Value).bind fun ae=>need (U.length+aa.length+ae.length+4<=281474976710656) (need (U.length+aa.length+ae.length+5<=281474976710656) (some ((((U++aa)++([32,58,61,32]:Str))++ae)++([59]:Str)))))))else(if s.Kind=2 then((za8 s.Value).bind fun af=>need (af.length+3<=281474976710656) (need (af.length+9<=281474976710656) (some ((([73,70,32]:Str)++af)++([32,84,72,69,78,32]:Str)))))else(if s.Kind=3 then((za8 s.Value).bind fun ab=>need (ab.length+6<=281474976710656) (need (ab.length+10<=281474976710656) (some ((([87,72,73,76,69,32]:Str)++ab)++([32,68,79,32]:Str)))))else(if s.Kind=4 then(need (s.Name.length+4<=281474976710656) (need (s.Name.length+8<=281474976710656) ((s.Args[0]?).bind fun aj=>(za8 aj).bind fun I=>need (s.Name.length+I.length+8<=281474976710656) (need (s.Name.length+I.length+12<=281474976710656) ((s.Args[1]?).bind fun ak=>(za8 ak).bind fun ad=>need (s.Name.length+I.length+ad.length+12<=281474976710656) (need (s.Name.length+I.length+ad.length+16<=281474976710656) (some ((((((([70,79,82,32]:Str)++s.Name)++([32,58,61,32]:Str))++I)++([32,84,79,32]:Str))++ad)++([32,68,79,32]:Str)))))))))else(need (s.Name.length+1<=281474976710656) ((loop (zkh s) ((s.Name++([40]:Str)),0)).bind (fun ai=>need (ai.length+2<=281474976710656) (some (ai++([41,59]:Str)))))))))
def zju (I:(List xtp)->Int->Int->Option Int) (l:List xtp) (deep:Int):(Int×Nat)->Option ((Int×Nat)⊕(Int⊕Int))
 |(U,aa)=>if(aa:Int)<(l.length:Int)then(if 0<=U then((l[aa]?).bind fun ab=>(zcx ab).bind fun af=>if af=true then((zcw ab).bind fun ad=>if 0<=(w64 (U-(ad.length:Int)))then((I ab.Body (w64 (deep-1)) (w64 (U-(ad.length:Int)))).bind fun ae=>if 0<=ae then((I ab.Else (w64 (deep-1)) ae).bind fun ai=>some (.inl (ai,(aa+1))))else(some (.inl (ae,(aa+1)))))else(some (.inl ((w64 (U-(ad.length:Int))),(aa+1)))))else(some (.inr (.inl ((-1))))))else(some (.inr (.inr (U)))))else(some (.inr (.inr (U))))
def zjv (I:(List xtp)->Int->Int->Option Int) (l:List xtp) (deep:Int):(Int×Nat)->Option ((Int×Nat)⊕(Int⊕Int))
 |(U,aa)=>if(aa:Int)<(l.length:Int)then(if 0<=U then((l[aa]?).bind fun ab=>(zcx ab).bind fun af=>if af=true then((zcw ab).bind fun ad=>if 0<=(w64 (U-(ad.length:Int)))then((I ab.Body (w64 (deep-1)) (w64 (U-(ad.length:Int)))).bind fun ae=>if 0<=ae then((I ab.Else (w64 (deep-1)) ae).bind fun ai=>some (.inl (ai,(aa+1))))else(some (.inl (ae,(aa+1)))))else(some (.inl ((w64 (U-(ad.length:Int))),(aa+1)))))else(some (.inr (.inl ((-1))))))else(some (.inr (.inr (U)))))else(some (.inr (.inr (U))))
def zdl (I:(List xtp)->Int->Int->Option Int) (l:List xtp) (deep:Int) (left:Int):Option Int:=
 if deep<0 then(some (-1))else(if 0<(l.length:Int)then(if deep<1 then(some (-1))else(if left<(l.length:Int)then(some (-1))else((loop (zjv I l deep) (left,0)).bind (fun ab=>match ab with|(.inl ad)=>some ad|(.inr U)=>some U))))else(if left<(l.length:Int)then(some (-1))else((loop (zju I l deep) (left,0)).bind (fun ab=>match ab with|(.inl ae)=>some ae|(.inr aa)=>some aa))))
def zck:Nat->((List xtp)->Int->Int->Option Int)
 |0=>fun _ _ _=>none
 |n+1=>zdl (zck n)
def zt6 (n:Nat) (l:List xtp) (deep:Int) (left:Int):Option Int:=(zck n) l deep left
def zor (l:List xtp) (deep:Int) (left:Int):Option Int:=zt6 1000000 l deep left
def zht (l:List xtp):Option Bool:=
 (zor l 24 16384).bind fun I=>some (decide (0<=I))
def zg1 (U:xt4):Nat->Option ((Nat)⊕(Bool⊕Unit))
 |I=>if(I:Int)<(U.Budget.length:Int)then((U.Budget[I]?).bind fun aa=>if aa<0 then(some (.inr (.inl (false))))else(if 4096<aa then(some (.inr (.inl (false))))else(some (.inl (I+1)))))else(some (.inr (.inr (()))))
def zg2 (p:xtm):Nat->Option ((Nat)⊕(Bool⊕Unit))
 |U=>if(U:Int)<(p.Tasks.length:Int)then((p.Tasks[U]?).bind fun I=>if I.Every<1 then(some (.inr (.inl (false))))else(if 65536<I.Every then(some (.inr (.inl (false))))else(if I.Priority<0 then(some (.inr (.inl (false))))else(if 255<I.Priority then(some (.inr (.inl (false))))else(if(I.Budget.length:Int)=(p.Lattice.Names.length:Int)then((zht I.Body).bind fun ab=>if ab=true then((loop (zg1 I) 0).bind (fun ad=>match ad with|(.inl aa)=>some (.inr (.inl (aa)))|(.inr ())=>some (.inl (U+1))))else(some (.inr (.inl (false)))))else(some (.inr (.inl (false)))))))))else(some (.inr (.inr (()))))
def zge (p:xtm):Option Bool:=
 (loop (zg2 p) 0).bind (fun U=>match U with|(.inl I)=>some I|(.inr ())=>some true)
def zb6 (n:Int):Option Str:=
 if n<0 then((zax (w64 (0-n))).bind fun I=>need (I.length+1<=281474976710656) (some (([45]:Str)++I)))else((zax n).bind fun U=>some U)
def ziw (t:xt3):Option Str:=
 (idx [[],([66,79,79,76]:Str),([73,78,84]:Str),([68,73,78,84]:Str),([84,73,77,69]:Str)] t.Kind).bind fun aa=>if t.Len=0 then(some aa)else((zb6 t.Low).bind fun I=>need (I.length+6<=281474976710656) (need (I.length+8<=281474976710656) ((zb6 (w64 ((w64 (t.Low+t.Len))-1))).bind fun U=>need (I.length+U.length+8<=281474976710656) (need (I.length+U.length+13<=281474976710656) (need (I.length+U.length+aa.length+13<=281474976710656) (some (((((([65,82,82,65,89,91]:Str)++I)++([46,46]:Str))++U)++([93,32,79,70,32]:Str))++aa)))))))
def zix (p:xtm) (v:xtv):Option Str:=
 (idx [([86,65,82,32]:Str),([73,78,80,85,84,32]:Str),([79,85,84,80,85,84,32]:Str)] v.Mode).bind fun I=>need (I.length+v.Name.length<=281474976710656) (need (I.length+v.Name.length+2<=281474976710656) ((ziw v.Type_).bind fun U=>need (I.length+v.Name.length+U.length+2<=281474976710656) (if 0<=v.Label then((idx p.Lattice.Names v.Label).bind fun aa=>need (aa.length+3<=281474976710656) (need (I.length+v.Name.length+U.length+aa.length+5<=281474976710656) (if v.Mode=2 then(if v.Type_.Kind=1 then(if v.Safe=1 then(need (I.length+v.Name.length+U.length+aa.length+13<=281474976710656) (need (I.length+v.Name.length+U.length+aa.length+15<=281474976710656) (some ((((((I++v.Name)++([58,32]:Str))++U)++(([32,64,32]:Str)++aa))++([32,58,61,32,84,82,85,69]:Str))++([59,10]:Str)))))else(need (I.length+v.Name.length+U.length+aa.length+14<=281474976710656) (need (I.length+v.Name.length+U.length+aa.length+16<=281474976710656) (some ((((((I++v.Name)++([58,32]:Str))++U)++(([32,64,32]:Str)++aa))++([32,58,61,32,70,65,76,83,69]:Str))++([59,10]:Str))))))else((zb6 v.Safe).bind fun ab=>need (ab.length+4<=281474976710656) (need (I.length+v.Name.length+U.length+aa.length+ab.length+9<=281474976710656) (need (I.length+v.Name.length+U.length+aa.length+ab.length+11<=281474976710656) (some ((((((I++v.Name)++([58,32]:Str))++U)++(([32,64,32]:Str)++aa))++(([32,58,61,32]:Str)++ab))++([59,10]:Str)))))))else(need (I.length+v.Name.length+U.length+aa.length+7<=281474976710656) (some (((((I++v.Name)++([58,32]:Str))++U)++(([32,64,32]:Str)++aa))++([59,10]:Str)))))))else(if v.Mode=2 then(if v.Type_.Kind=1 then(if v.Safe=1 then(need (I.length+v.Name.length+U.length+10<=281474976710656) (need (I.length+v.Name.length+U.length+12<=281474976710656) (some (((((I++v.Name)++([58,32]:Str))++U)++([32,58,61,32,84,82,85,69]:Str))++([59,10]:Str)))))else(need (I.length+v.Name.length+U.length+11<=281474976710656) (need (I.length+v.Name.length+U.length+13<=281474976710656) (some (((((I++v.Name)++([58,32]:Str))++U)++([32,58,61,32,70,65,76,83,69]:Str))++([59,10]:Str))))))else((zb6 v.Safe).bind fun ad=>need (ad.length+4<=281474976710656) (need (I.length+v.Name.length+U.length+ad.length+6<=281474976710656) (need (I.length+v.Name.length+U.length+ad.length+8<=281474976710656) (some (((((I++v.Name)++([58,32]:Str))++U)++(([32,58,61,32]:Str)++ad))++([59,10]:Str)))))))else(need (I.length+v.Name.length+U.length+4<=281474976710656) (some ((((I++v.Name)++([58,32]:Str))++U)++([59,10]:Str))))))))
def zkg (I:(List xtp)->Option Str) (l:List xtp):(Str×Nat)->Option ((Str×Nat)⊕(Str))
 |(U,ae)=>if(ae:Int)<(l.length:Int)then(if 0<(ae:Int)then(need (U.length+1<=281474976710656) ((l[ae]?).bind fun aj=>(zcw aj).bind fun af=>need (U.length+af.length+1<=281474976710656) ((I aj.Body).bind fun ad=>if ad=[]then(if aj.Kind=2 then(need (U.length+af.length+ad.length+1<=281474976710656) (if 0<(aj.Else.length:Int)then((I aj.Else).bind fun ak=>need (ak.length+5<=281474976710656) (need (ak.length+6<=281474976710656) (need (U.length+af.length+ad.length+ak.length+7<=281474976710656) (need (U.length+af.length+ad.length+ak.length+14<=281474976710656) (some (.inl ((((((U++([32]:Str))++af)++ad)++((([69,76,83,69,32]:Str)++ak)++([32]:Str)))++([69,78,68,95,73,70,59]:Str)),(ae+1))))))))else(need (U.length+af.length+ad.length+8<=281474976710656) (some (.inl (((((U++([32]:Str))++af)++ad)++([69,78,68,95,73,70,59]:Str)),(ae+1)))))))else(if aj.Kind=3 then(need (ad.length+10<=281474976710656) (need (U.length+af.length+ad.length+11<=281474976710656) (some (.inl ((((U++([32]:Str))++af)++(ad++([69,78,68,95,87,72,73,76,69,59]:Str))),(ae+1))))))else(if aj.Kind=4 then(need (ad.length+8<=281474976710656) (need (U.length+af.length+ad.length+9<=281474976710656) (some (.inl ((((U++([32]:Str))++af)++(ad++([69,78,68,95,70,79,82,59]:Str))),(ae+1))))))else(some (.inl (((U++([32]:Str))++af),(ae+1)))))))else(need (ad.length+1<=281474976710656) (if aj.Kind=2 then(need (U.length+af.length+ad.length+2<=281474976710656) (if 0<(aj.Else.length:Int)then((I aj.Else).bind fun al=>need (al.length+5<=281474976710656) (need (al.length+6<=281474976710656) (need (U.length+af.length+ad.length+al.length+8<=281474976710656) (need (U.length+af.length+ad.length+al.length+15<=281474976710656) (some (.inl ((((((U++([32]:Str))++af)++(ad++([32]:Str)))++((([69,76,83,69,32]:Str)++al)++([32]:Str)))++([69,78,68,95,73,70,59]:Str)),(ae+1))))))))else(need (U.length+af.length+ad.length+9<=281474976710656) (some (.inl (((((U++([32]:Str))++af)++(ad++([32]:Str)))++([69,78,68,95,73,70,59]:Str)),(ae+1)))))))else(if aj.Kind=3 then(need (ad.length+11<=281474976710656) (need (U.length+af.length+ad.length+12<=281474976710656) (some (.inl ((((U++([32]:Str))++af)++((ad++([32]:Str))++([69,78,68,95,87,72,73,76,69,59]:Str))),(ae+1))))))else(if aj.Kind=4 then(need (ad.length+9<=281474976710656) (need (U.length+af.length+ad.length+10<=281474976710656) (some (.inl ((((U++([32]:Str))++af)++((ad++([32]:Str))++([69,78,68,95,70,79,82,59]:Str))),(ae+1))))))else(some (.inl (((U++([32]:Str))++af),(ae+1)))))))))))else((l[ae]?).bind fun ai=>(zcw ai).bind fun ab=>need (U.length+ab.length<=281474976710656) ((I ai.Body).bind fun aa=>if aa=[]then(if ai.Kind=2 then(need (U.length+ab.length+aa.length<=281474976710656) (if 0<(ai.Else.length:Int)then((I ai.Else).bind fun an=>need (an.length+5<=281474976710656) (need (an.length+6<=281474976710656) (need (U.length+ab.length+aa.length+an.length+6<=281474976710656) (need (U.length+ab.length+aa.length+an.length+13<=281474976710656) (some (.inl (((((U++ab)++aa)++((([69,76,83,69,32]:Str)++an)++([32]:Str)))++([69,78,68,95,73,70,59]:Str)),(ae+1))))))))else(need (U.length+ab.length+aa.length+7<=281474976710656) (some (.inl ((((U++ab)++aa)++([69,78,68,95,73,70,59]:Str)),(ae+1)))))))else(if ai.Kind=3 then(need (aa.length+10<=281474976710656) (need (U.length+ab.length+aa.length+10<=281474976710656) (some (.inl (((U++ab)++(aa++([69,78,68,95,87,72,73,76,69,59]:Str))),(ae+1))))))else(if ai.Kind=4 then(need (aa.length+8<=281474976710656) (need (U.length+ab.length+aa.length+8<=281474976710656) (some (.inl (((U++ab)++(aa++([69,78,68,95,70,79,82,59]:Str))),(ae+1))))))else(some (.inl ((U++ab),(ae+1)))))))else(need (aa.length+1<=281474976710656) (if ai.Kind=2 then(need (U.length+ab.length+aa.length+1<=281474976710656) (if 0<(ai.Else.length:Int)then((I ai.Else).bind fun ao=>need (ao.length+5<=281474976710656) (need (ao.length+6<=281474976710656) (need (U.length+ab.length+aa.length+ao.length+7<=281474976710656) (need (U.length+ab.length+aa.length+ao.length+14<=281474976710656) (some (.inl (((((U++ab)++(aa++([32]:Str)))++((([69,76,83,69,32]:Str)++ao)++([32]:Str)))++([69,78,68,95,73,70,59]:Str)),(ae+1))))))))else(need (U.length+ab.length+aa.length+8<=281474976710656) (some (.inl ((((U++ab)++(aa++([32]:Str)))++([69,78,68,95,73,70,59]:Str)),(ae+1)))))))else(if ai.Kind=3 then(need (aa.length+11<=281474976710656) (need (U.length+ab.length+aa.length+11<=281474976710656) (some (.inl (((U++ab)++((aa++([32]:Str))++([69,78,68,95,87,72,73,76,69,59]:Str))),(ae+1))))))else(if ai.Kind=4 then(need (aa.length+9<=281474976710656) (need (U.length+ab.length+aa.length+9<=281474976710656) (some (.inl (((U++ab)++((aa++([32]:Str))++([69,78,68,95,70,79,82,59]:Str))),(ae+1))))))else(some (.inl ((U++ab),(ae+1)))))))))))else(some (.inr (U)))
def zfk (I:(List xtp)->Option Str) (l:List xtp):Option Str:=
 (loop (zkg I l) ([],0)).bind (fun U=>some U)
def zfj:Nat->((List xtp)->Option Str)
 |0=>fun _=>none
 |n+1=>zfk (zfj n)
def zu6 (n:Nat) (l:List xtp):Option Str:=(zfj n) l
def zpg (l:List xtp):Option Str:=zu6 1000000 l
def zhs (l:List xtp):Option Str:=
 (zpg l).bind fun I=>some I
def zke (p:xtm) (t:xt4):(Str×Nat)->Option ((Str×Nat)⊕(Str))
 |(U,I)=>if(I:Int)<(t.Budget.length:Int)then(if(I:Int)=0 then(need (U.length+8<=281474976710656) ((p.Lattice.Names[I]?).bind fun aa=>need (aa.length+1<=281474976710656) ((t.Budget[I]?).bind fun af=>(zax af).bind fun ad=>need (aa.length+ad.length+1<=281474976710656) (need (U.length+aa.length+ad.length+9<=281474976710656) (some (.inl (((U++([32,66,85,68,71,69,84,32]:Str))++((aa++([32]:Str))++ad)),(I+1))))))))else(need (U.length+2<=281474976710656) ((p.Lattice.Names[I]?).bind fun ab=>need (ab.length+1<=281474976710656) ((t.Budget[I]?).bind fun ai=>(zax ai).bind fun ae=>need (ab.length+ae.length+1<=281474976710656) (need (U.length+ab.length+ae.length+3<=281474976710656) (some (.inl (((U++([44,32]:Str))++((ab++([32]:Str))++ae)),(I+1)))))))))else(some (.inr (U)))
def zhp (p:xtm) (t:xt4):Option Str:=
 (zax t.Every).bind fun aa=>need (aa.length+11<=281474976710656) (need (aa.length+21<=281474976710656) ((zax t.Priority).bind fun ab=>need (aa.length+ab.length+21<=281474976710656) ((loop (zke p t) ((((([84,65,83,75,32,69,86,69,82,89,32]:Str)++aa)++([32,80,82,73,79,82,73,84,89,32]:Str))++ab),0)).bind (fun U=>need (U.length+4<=281474976710656) ((zhs t.Body).bind fun I=>if I=[]then(need (U.length+9<=281474976710656) (some ((U++([32,68,79,32]:Str))++([69,78,68,59,10]:Str))))else(need (I.length+1<=281474976710656) (need (U.length+I.length+5<=281474976710656) (need (U.length+I.length+10<=281474976710656) (some (((U++([32,68,79,32]:Str))++(I++([32]:Str)))++([69,78,68,59,10]:Str)))))))))))
def zh4 (p:xtm):(Str×Nat)->Option ((Str×Nat)⊕(Str))
 |(I,U)=>if(U:Int)<(p.Tasks.length:Int)then((p.Tasks[U]?).bind fun ab=>(zhp p ab).bind fun aa=>need (I.length+aa.length<=281474976710656) (some (.inl ((I++aa),(U+1)))))else(some (.inr (I)))
def zh5 (p:xtm):(Str×Nat)->Option ((Str×Nat)⊕(Str))
 |(aa,ab)=>if(ab:Int)<(p.Blocks.length:Int)then((p.Blocks[ab]?).bind fun I=>need (I.Name.length+6<=281474976710656) (need (I.Name.length+8<=281474976710656) (need (I.Name.length+I.Kind.length+8<=281474976710656) (need (I.Name.length+I.Kind.length+11<=281474976710656) ((idx p.Lattice.Names I.Label).bind fun U=>need (I.Name.length+I.Kind.length+U.length+11<=281474976710656) (need (I.Name.length+I.Kind.length+U.length+13<=281474976710656) (need (aa.length+I.Name.length+I.Kind.length+U.length+13<=281474976710656) (some (.inl ((aa++((((((([66,76,79,67,75,32]:Str)++I.Name)++([58,32]:Str))++I.Kind)++([32,64,32]:Str))++U)++([59,10]:Str))),(ab+1)))))))))))else(some (.inr (aa)))
def zh6 (p:xtm):(Str×Nat)->Option ((Str×Nat)⊕(Str))
 |(I,U)=>if(U:Int)<(p.Vars.length:Int)then((p.Vars[U]?).bind fun ab=>(zix p ab).bind fun aa=>need (I.length+aa.length<=281474976710656) (some (.inl ((I++aa),(U+1)))))else(some (.inr (I)))
def zh7 (p:xtm):(Str×Nat)->Option ((Str×Nat)⊕(Str))
 |(ab,ad)=>if(ad:Int)<(p.Sites.length:Int)then((p.Sites[ad]?).bind fun I=>need (I.Name.length+5<=281474976710656) (need (I.Name.length+7<=281474976710656) ((idx p.Lattice.Names I.From).bind fun U=>need (I.Name.length+U.length+7<=281474976710656) (need (I.Name.length+U.length+11<=281474976710656) ((idx p.Lattice.Names I.To).bind fun aa=>need (I.Name.length+U.length+aa.length+11<=281474976710656) (need (I.Name.length+U.length+aa.length+13<=281474976710656) (need (ab.length+I.Name.length+U.length+aa.length+13<=281474976710656) (some (.inl ((ab++((((((([83,73,84,69,32]:Str)++I.Name)++([58,32]:Str))++U)++([32,45,62,32]:Str))++aa)++([59,10]:Str))),(ad+1)))))))))))else(some (.inr (ab)))
def zh8 (p:xtm):(Str×Nat)->Option ((Str×Nat)⊕(Str))
 |(aa,ab)=>if(ab:Int)<(p.Lattice.Below.length:Int)then((p.Lattice.Below[ab]?).bind fun ad=>(idx p.Lattice.Names ad.a0).bind fun I=>need (I.length+6<=281474976710656) (need (I.length+9<=281474976710656) ((idx p.Lattice.Names ad.a1).bind fun U=>need (I.length+U.length+9<=281474976710656) (need (I.length+U.length+11<=281474976710656) (need (aa.length+I.length+U.length+11<=281474976710656) (some (.inl ((aa++((((([76,65,66,69,76,32]:Str)++I)++([32,60,32]:Str))++U)++([59,10]:Str))),(ab+1)))))))))else(some (.inr (aa)))
def zh9 (p:xtm):(Str×Nat)->Option ((Str×Nat)⊕(Str))
 |(U,aa)=>if(aa:Int)<(p.Lattice.Names.length:Int)then((p.Lattice.Names[aa]?).bind fun I=>need (I.length+6<=281474976710656) (need (I.length+8<=281474976710656) (need (U.length+I.length+8<=281474976710656) (some (.inl ((U++((([76,65,66,69,76,32]:Str)++I)++([59,10]:Str))),(aa+1)))))))else(some (.inr (U)))
def zho (p:xtm):Option Str:=
 (loop (zh9 p) ([],0)).bind (fun ae=>(loop (zh8 p) (ae,0)).bind (fun I=>(loop (zh7 p) (I,0)).bind (fun U=>(loop (zh6 p) (U,0)).bind (fun aa=>(loop (zh5 p) (aa,0)).bind (fun ab=>(loop (zh4 p) (ab,0)).bind (fun ad=>some ad))))))
def zbq (p:xtm):Option Bool:=
 (zgf p).bind fun I=>if I=true then((zge p).bind fun U=>if U=true then((zho p).bind fun aa=>some (decide ((aa.length:Int)<=16384)))else(some false))else(some false)
def zjg (I:(List xtp)->Option Int) (l:List xtp):(Int×Nat)->Option ((Int×Nat)⊕(Int))
 |(ab,aa)=>if(aa:Int)<(l.length:Int)then((l[aa]?).bind fun U=>if U.Kind=4 then((I U.Body).bind fun ad=>(I U.Else).bind fun ae=>some (.inl ((w64 ((w64 (ab+1))+(w64 (ad+ae)))),(aa+1))))else((I U.Body).bind fun af=>(I U.Else).bind fun ai=>some (.inl ((w64 (ab+(w64 (af+ai)))),(aa+1)))))else(some (.inr (ab)))
def zeq (I:(List xtp)->Option Int) (l:List xtp):Option Int:=
 (loop (zjg I l) (0,0)).bind (fun U=>some U)
def zep:Nat->((List xtp)->Option Int)
 |0=>fun _=>none
 |n+1=>zeq (zep n)
def ztr (n:Nat) (l:List xtp):Option Int:=(zep n) l
def zoo (l:List xtp):Option Int:=ztr 1000000 l
def zkv (l:List Int):(Int×Nat)->Option ((Int×Nat)⊕(Int))
 |(U,I)=>if(I:Int)<(l.length:Int)then((l[I]?).bind fun aa=>some (.inl ((w64 (U+aa)),(I+1))))else(some (.inr (U)))
def zis (l:List Int):Option Int:=
 (loop (zkv l) (0,0)).bind (fun I=>some I)
def zj7 (p:xtm):(Int×Nat)->Option ((Int×Nat)⊕(Bool⊕Int))
 |(U,I)=>if(I:Int)<(p.Tasks.length:Int)then((p.Tasks[I]?).bind fun aa=>(zoo aa.Body).bind fun ab=>(zis aa.Budget).bind fun ad=>if 4096<ad then(some (.inr (.inl (false))))else(some (.inl ((w64 (U+ab)),(I+1)))))else(some (.inr (.inr (U))))
def zhj (p:xtm):Option Bool:=
 (zbq p).bind fun U=>if U=true then(if 64<(p.Lattice.Below.length:Int)then(some false)else((loop (zj7 p) (0,0)).bind (fun aa=>match aa with|(.inl ab)=>some ab|(.inr I)=>some (decide (I<=48)))))else(some false)
def zfr (l:xtq):((List Bool)×Bool×Nat)->Option (((List Bool)×Bool×Nat)⊕((List Bool)×Bool))
 |(I,U,aa)=>if(aa:Int)<(l.Below.length:Int)then((l.Below[aa]?).bind fun ab=>(zbb l ab.a0).bind fun ad=>if ad=true then((zbb l ab.a1).bind fun ae=>if ae=true then((idx I ab.a0).bind fun af=>if af=true then((idx I ab.a1).bind fun ai=>if ai=true then(some (.inl (I,U,(aa+1))))else(some (.inl ((I.set ab.a1.toNat true),true,(aa+1)))))else(some (.inl (I,U,(aa+1)))))else(some (.inl (I,U,(aa+1)))))else(some (.inl (I,U,(aa+1)))))else(some (.inr ((I,U))))
def zd0 (l:xtq):((List Bool)×Bool)->Option (((List Bool)×Bool)⊕(List Bool))
 |(I,ab)=>if ab=true then((loop (zfr l) (I,false,0)).bind (fun(U,aa)=>some (.inl (U,aa))))else(some (.inr (I)))
def zal (l:xtq) (a:Int) (b:Int):Option Bool:=
 (zbb l a).bind fun U=>if U=true then((zbb l b).bind fun aa=>if aa=true then(need (0<=(l.Names.length:Int)/\1*(l.Names.length:Int)<=140737488355328) ((idx (List.replicate l.Names.length false) a).bind fun ad=>(loop (zd0 l) (((List.replicate l.Names.length false).set a.toNat true),true)).bind (fun ab=>(idx ab b).bind fun I=>some I)))else(some false))else(some false)
def zdq (l:xtq) (a:Int) (b:Int) (ae:Nat):(Bool×Nat)->Option ((Bool×Nat)⊕(Bool))
 |(U,I)=>if(I:Int)<(l.Names.length:Int)then(if U=true then((zal l a (I:Int)).bind fun aa=>if aa=true then((zal l b (I:Int)).bind fun ab=>if ab=true then((zal l (ae:Int) (I:Int)).bind fun ad=>some (.inl (ad,(I+1))))else(some (.inl (true,(I+1)))))else(some (.inl (true,(I+1)))))else(some (.inr (U))))else(some (.inr (U)))
def zdr (l:xtq) (a:Int) (b:Int) (ae:Nat):(Bool×Nat)->Option ((Bool×Nat)⊕(Bool))
 |(U,I)=>if(I:Int)<(l.Names.length:Int)then(if U=true then((zal l a (I:Int)).bind fun aa=>if aa=true then((zal l b (I:Int)).bind fun ab=>if ab=true then((zal l (ae:Int) (I:Int)).bind fun ad=>some (.inl (ad,(I+1))))else(some (.inl (true,(I+1)))))else(some (.inl (true,(I+1)))))else(some (.inr (U))))else(some (.inr (U)))
def ze2 (l:xtq) (a:Int) (b:Int):Nat->Option ((Nat)⊕(Int⊕Unit))
 |I=>if(I:Int)<(l.Names.length:Int)then((zal l a (I:Int)).bind fun aa=>if aa=true then((zal l b (I:Int)).bind fun ab=>(loop (zdr l a b I) (ab,0)).bind (fun ad=>if ad=true then(some (.inr (.inl ((I:Int)))))else(some (.inl (I+1)))))else((loop (zdq l a b I) (false,0)).bind (fun U=>if U=true then(some (.inr (.inl ((I:Int)))))else(some (.inl (I+1))))))else(some (.inr (.inr (()))))
def zcd (l:xtq) (a:Int) (b:Int):Option Int:=
 (loop (ze2 l a b) 0).bind (fun U=>match U with|(.inl I)=>some I|(.inr ())=>some (-1))
def zdo (l:xtq) (a:Int) (b:Int) (ae:Nat):(Bool×Nat)->Option ((Bool×Nat)⊕(Bool))
 |(U,I)=>if(I:Int)<(l.Names.length:Int)then(if U=true then((zal l (I:Int) a).bind fun aa=>if aa=true then((zal l (I:Int) b).bind fun ab=>if ab=true then((zal l (I:Int) (ae:Int)).bind fun ad=>some (.inl (ad,(I+1))))else(some (.inl (true,(I+1)))))else(some (.inl (true,(I+1)))))else(some (.inr (U))))else(some (.inr (U)))
def zdp (l:xtq) (a:Int) (b:Int) (ae:Nat):(Bool×Nat)->Option ((Bool×Nat)⊕(Bool))
 |(U,I)=>if(I:Int)<(l.Names.length:Int)then(if U=true then((zal l (I:Int) a).bind fun aa=>if aa=true then((zal l (I:Int) b).bind fun ab=>if ab=true then((zal l (I:Int) (ae:Int)).bind fun ad=>some (.inl (ad,(I+1))))else(some (.inl (true,(I+1)))))else(some (.inl (true,(I+1)))))else(some (.inr (U))))else(some (.inr (U)))
def ze0 (l:xtq) (a:Int) (b:Int):Nat->Option ((Nat)⊕(Int⊕Unit))
 |I=>if(I:Int)<(l.Names.length:Int)then((zal l (I:Int) a).bind fun aa=>if aa=true then((zal l (I:Int) b).bind fun ab=>(loop (zdp l a b I) (ab,0)).bind (fun ad=>if ad=true then(some (.inr (.inl ((I:Int)))))else(some (.inl (I+1)))))else((loop (zdo l a b I) (false,0)).bind (fun U=>if U=true then(some (.inr (.inl ((I:Int)))))else(some (.inl (I+1))))))else(some (.inr (.inr (()))))
def ze8 (l:xtq) (a:Int) (b:Int):Option Int:=
 (loop (ze0 l a b) 0).bind (fun U=>match U with|(.inl I)=>some I|(.inr ())=>some (-1))
def zc8 (l:xtq) (U:Nat) (aa:Str):Nat->Option ((Nat)⊕(Int⊕Unit))
 |I=>if(I:Int)<(U:Int)then((l.Names[I]?).bind fun ab=>if aa=ab then(some (.inr (.inl (4))))else((zal l (U:Int) (I:Int)).bind fun ad=>if ad=true then((zal l (I:Int) (U:Int)).bind fun ae=>if ae=true then(some (.inr (.inl (4))))else((zcd l (U:Int) (I:Int)).bind fun af=>if af<0 then(some (.inr (.inl (4))))else((ze8 l (U:Int) (I:Int)).bind fun ai=>if ai<0 then(some (.inr (.inl (4))))else(some (.inl (I+1))))))else((zcd l (U:Int) (I:Int)).bind fun aj=>if aj<0 then(some (.inr (.inl (4))))else((ze8 l (U:Int) (I:Int)).bind fun ak=>if ak<0 then(some (.inr (.inl (4))))else(some (.inl (I+1)))))))else(some (.inr (.inr (()))))
def zee (l:xtq):Nat->Option ((Nat)⊕(Int⊕Unit))
 |I=>if(I:Int)<(l.Names.length:Int)then((l.Names[I]?).bind fun U=>if U=[]then(some (.inr (.inl (4))))else((loop (zc8 l I U) 0).bind (fun ab=>match ab with|(.inl aa)=>some (.inr (.inl (aa)))|(.inr ())=>some (.inl (I+1)))))else(some (.inr (.inr (()))))
def zef (l:xtq):Nat->Option ((Nat)⊕(Int⊕Unit))
 |I=>if(I:Int)<(l.Below.length:Int)then((l.Below[I]?).bind fun U=>(zbb l U.a0).bind fun aa=>if aa=true then((zbb l U.a1).bind fun ab=>if ab=true then(some (.inl (I+1)))else(some (.inr (.inl (4)))))else(some (.inr (.inl (4)))))else(some (.inr (.inr (()))))
def zgn (l:xtq):Option Int:=
 if(l.Names.length:Int)<1 then(some 3)else(if 8<(l.Names.length:Int)then(some 3)else((loop (zef l) 0).bind (fun I=>match I with|(.inl aa)=>some aa|(.inr ())=>(loop (zee l) 0).bind (fun I=>match I with|(.inl U)=>some U|(.inr ())=>some 0))))
def ziv (p:xtm) (name:Str):Nat->Option ((Nat)⊕(Int⊕Unit))
 |I=>if(I:Int)<(p.Vars.length:Int)then((p.Vars[I]?).bind fun U=>if U.Name=name then(some (.inr (.inl ((I:Int)))))else(some (.inl (I+1))))else(some (.inr (.inr (()))))
def za0 (p:xtm) (name:Str):Option Int:=
 (loop (ziv p name) 0).bind (fun I=>match I with|(.inl U)=>some U|(.inr ())=>some (-1))
def zg0 (p:xtm) (name:Str):Nat->Option ((Nat)⊕(Int⊕Unit))
 |I=>if(I:Int)<(p.Blocks.length:Int)then((p.Blocks[I]?).bind fun U=>if U.Name=name then(some (.inr (.inl ((I:Int)))))else(some (.inl (I+1))))else(some (.inr (.inr (()))))
def zbp (p:xtm) (name:Str):Option Int:=
 (loop (zg0 p name) 0).bind (fun I=>match I with|(.inl U)=>some U|(.inr ())=>some (-1))
def zh3 (p:xtm) (name:Str):Nat->Option ((Nat)⊕(Int⊕Unit))
 |I=>if(I:Int)<(p.Sites.length:Int)then((p.Sites[I]?).bind fun U=>if U.Name=name then(some (.inr (.inl ((I:Int)))))else(some (.inl (I+1))))else(some (.inr (.inr (()))))
def zcv (p:xtm) (name:Str):Option Int:=
 (loop (zh3 p name) 0).bind (fun I=>match I with|(.inl U)=>some U|(.inr ())=>some (-1))
def zfi (U:xtm->xtn->Option Bool) (I:xtm->(List xtn)->Option Bool) (p:xtm) (e:xtn):Option Bool:=
 if e.Op=2 then((za0 p e.Name).bind fun aa=>if aa<0 then(some false)else((I p e.Args).bind fun ab=>some ab))else(if e.Op=3 then((za0 p e.Name).bind fun ad=>if ad<0 then(some false)else((I p e.Args).bind fun ae=>some ae))else(if e.Op=4 then((zbp p e.Name).bind fun af=>if af<0 then(some false)else((I p e.Args).bind fun ai=>some ai))else(if e.Op=21 then((zcv p e.Name).bind fun aj=>if aj<0 then(some false)else((I p e.Args).bind fun ak=>some ak))else((I p e.Args).bind fun al=>some al))))
def zgu (I:xtm->xtn->Option Bool) (p:xtm) (l:List xtn):Nat->Option ((Nat)⊕(Bool⊕Unit))
 |U=>if(U:Int)<(l.length:Int)then((l[U]?).bind fun aa=>(I p aa).bind fun ab=>if ab=true then(some (.inl (U+1)))else(some (.inr (.inl (false)))))else(some (.inr (.inr (()))))
def zeu (I:xtm->xtn->Option Bool) (U:xtm->(List xtn)->Option Bool) (p:xtm) (l:List xtn):Option Bool:=
 (loop (zgu I p l) 0).bind (fun aa=>match aa with|(.inl ab)=>some ab|(.inr ())=>some true)
def zau:Nat->(xtm->xtn->Option Bool)×(xtm->(List xtn)->Option Bool)
 |0=>(fun _ _=>none,fun _ _=>none)
 |n+1=>(zfi (zau n).1 (zau n).2,zeu (zau n).1 (zau n).2)
def zu3 (n:Nat) (p:xtm) (e:xtn):Option Bool:=(zau n).1 p e
def zcu (p:xtm) (e:xtn):Option Bool:=zu3 1000000 p e
def ztz (n:Nat) (p:xtm) (l:List xtn):Option Bool:=(zau n).2 p l
def zgc (p:xtm) (l:List xtn):Option Bool:=ztz 1000000 p l
def zgv (I:xtm->(List xtp)->Option Bool) (p:xtm) (l:List xtp):Nat->Option ((Nat)⊕(Bool⊕Unit))
 |aa=>if(aa:Int)<(l.length:Int)then((l[aa]?).bind fun U=>if U.Kind=4 then((za0 p U.Name).bind fun au=>if au<0 then(some (.inr (.inl (false))))else(if U.Kind=5 then none else((zcu p U.Target).bind fun av=>if av=true then((zcu p U.Value).bind fun aw=>if aw=true then((zgc p U.Args).bind fun ax=>if ax=true then((I p U.Body).bind fun ay=>if ay=true then((I p U.Else).bind fun ab=>if ab=true then(some (.inl (aa+1)))else(some (.inr (.inl (false)))))else(some (.inr (.inl (false)))))else(some (.inr (.inl (false)))))else(some (.inr (.inl (false)))))else(some (.inr (.inl (false)))))))else(if U.Kind=5 then((zbp p U.Name).bind fun ad=>if ad<0 then(some (.inr (.inl (false))))else((zcu p U.Target).bind fun ae=>if ae=true then((zcu p U.Value).bind fun af=>if af=true then((zgc p U.Args).bind fun ai=>if ai=true then((I p U.Body).bind fun aj=>if aj=true then((I p U.Else).bind fun ak=>if ak=true then(some (.inl (aa+1)))else(some (.inr (.inl (false)))))else(some (.inr (.inl (false)))))else(some (.inr (.inl (false)))))else(some (.inr (.inl (false)))))else(some (.inr (.inl (false))))))else((zcu p U.Target).bind fun al=>if al=true then((zcu p U.Value).bind fun an=>if an=true then((zgc p U.Args).bind fun ao=>if ao=true then((I p U.Body).bind fun aq=>if aq=true then((I p U.Else).bind fun ar=>if ar=true then(some (.inl (aa+1)))else(some (.inr (.inl (false)))))else(some (.inr (.inl (false)))))else(some (.inr (.inl (false)))))else(some (.inr (.inl (false)))))else(some (.inr (.inl (false)))))))else(some (.inr (.inr (()))))
def zew (I:xtm->(List xtp)->Option Bool) (p:xtm) (l:List xtp):Option Bool:=
 (loop (zgv I p l) 0).bind (fun aa=>match aa with|(.inl U)=>some U|(.inr ())=>some true)
def zev:Nat->(xtm->(List xtp)->Option Bool)
 |0=>fun _ _=>none
 |n+1=>zew (zev n)
def zt0 (n:Nat) (p:xtm) (l:List xtp):Option Bool:=(zev n) p l
def zlk (p:xtm) (l:List xtp):Option Bool:=zt0 1000000 p l
def zgw (p:xtm):Nat->Option ((Nat)⊕(Int⊕Unit))
 |I=>if(I:Int)<(p.Tasks.length:Int)then((p.Tasks[I]?).bind fun U=>(zlk p U.Body).bind fun aa=>if aa=true then(some (.inl (I+1)))else(some (.inr (.inl (5)))))else(some (.inr (.inr (()))))
def zjs (U:List Str) (aa:Nat):Nat->Option ((Nat)⊕(Int⊕Unit))
 |I=>if(I:Int)<(aa:Int)then((U[aa]?).bind fun ab=>(U[I]?).bind fun ad=>if ab=ad then(some (.inr (.inl (5))))else(some (.inl (I+1))))else(some (.inr (.inr (()))))
def zjt (U:List Str):Nat->Option ((Nat)⊕(Int⊕Unit))
 |I=>if(I:Int)<(U.length:Int)then((loop (zjs U I) 0).bind (fun ab=>match ab with|(.inl aa)=>some (.inr (.inl (aa)))|(.inr ())=>some (.inl (I+1))))else(some (.inr (.inr (()))))
def zgx (p:xtm):((List Str)×Nat)->Option (((List Str)×Nat)⊕(List Str))
 |(I,U)=>if(U:Int)<(p.Sites.length:Int)then((p.Sites[U]?).bind fun aa=>need ((I.length+1)*16<=140737488355328) (some (.inl ((I++[aa.Name]),(U+1)))))else(some (.inr (I)))
def zgy (p:xtm):((List Str)×Nat)->Option (((List Str)×Nat)⊕(List Str))
 |(I,U)=>if(U:Int)<(p.Blocks.length:Int)then((p.Blocks[U]?).bind fun aa=>need ((I.length+1)*16<=140737488355328) (some (.inl ((I++[aa.Name]),(U+1)))))else(some (.inr (I)))
def zgz (p:xtm):((List Str)×Nat)->Option (((List Str)×Nat)⊕(List Str))
 |(I,U)=>if(U:Int)<(p.Vars.length:Int)then((p.Vars[U]?).bind fun aa=>need ((I.length+1)*16<=140737488355328) (some (.inl ((I++[aa.Name]),(U+1)))))else(some (.inr (I)))
def zgd (p:xtm):Option Int:=
 (loop (zgz p) ([],0)).bind (fun ae=>(loop (zgy p) (ae,0)).bind (fun U=>(loop (zgx p) (U,0)).bind (fun aa=>(loop (zjt aa) 0).bind (fun I=>match I with|(.inl ab)=>some ab|(.inr ())=>(loop (zgw p) 0).bind (fun I=>match I with|(.inl ad)=>some ad|(.inr ())=>some 0)))))
def zdx (kind:Str):Option (List Int):=
 if kind=([84,79,78]:Str)then(some [1,4])else(if kind=([84,79,70]:Str)then(some [1,4])else(if kind=([84,80]:Str)then(some [1,4])else(if kind=([67,84,85]:Str)then(some [1,1,2])else(if kind=([67,84,68]:Str)then(some [1,1,2])else(if kind=([67,84,85,68]:Str)then(some [1,1,1,1,2])else(if kind=([82,95,84,82,73,71]:Str)then(some [1])else(if kind=([70,95,84,82,73,71]:Str)then(some [1])else(if kind=([83,82]:Str)then(some [1,1])else(if kind=([82,83]:Str)then(some [1,1])else(some []))))))))))
def za5 (kind:Str):Option (List Int):=
 if kind=([84,79,78]:Str)then(some [1,4])else(if kind=([84,79,70]:Str)then(some [1,4])else(if kind=([84,80]:Str)then(some [1,4])else(if kind=([67,84,85]:Str)then(some [1,2])else(if kind=([67,84,68]:Str)then(some [1,2])else(if kind=([67,84,85,68]:Str)then(some [1,1,2])else(if kind=([82,95,84,82,73,71]:Str)then(some [1])else(if kind=([70,95,84,82,73,71]:Str)then(some [1])else(if kind=([83,82]:Str)then(some [1])else(if kind=([82,83]:Str)then(some [1])else(some []))))))))))
def zag (op:Int) (kind:Int):Option Int:=
 (zba kind).bind fun I=>if I=0 then(some 0)else(if op=5 then(if kind=1 then(some 0)else(some kind))else(if 7<=op then(if op<=11 then(if kind=1 then(some 0)else(some kind))else(if op=6 then(if kind=4 then(some 0)else(some kind))else(if 18<=op then(if op<=20 then(if kind=4 then(some 0)else(some kind))else(if op=12 then(some 1)else(if op=13 then(some 1)else(if 14<=op then(if op<=17 then(if kind=1 then(some 0)else(some 1))else(some 0))else(some 0)))))else(if op=12 then(some 1)else(if op=13 then(some 1)else(if 14<=op then(if op<=17 then(if kind=1 then(some 0)else(some 1))else(some 0))else(some 0)))))))else(if op=6 then(if kind=4 then(some 0)else(some kind))else(if 18<=op then(if op<=20 then(if kind=4 then(some 0)else(some kind))else(if op=12 then(some 1)else(if op=13 then(some 1)else(if 14<=op then(if op<=17 then(if kind=1 then(some 0)else(some 1))else(some 0))else(some 0)))))else(if op=12 then(some 1)else(if op=13 then(some 1)else(if 14<=op then(if op<=17 then(if kind=1 then(some 0)else(some 1))else(some 0))else(some 0))))))))
def zat (I:xtm->xtn->Option Int) (p:xtm) (e:xtn):Option Int:=
 if e.Op=1 then(some e.Kind)else(if e.Op=2 then((za0 p e.Name).bind fun aa=>if aa<0 then(some 0)else((idx p.Vars aa).bind fun ab=>if((decide (0<ab.Type_.Len))==(decide (e.Op=3)))=true then(if e.Op=3 then none else(some ab.Type_.Kind))else(some 0)))else(if e.Op=3 then((za0 p e.Name).bind fun ad=>if ad<0 then(some 0)else((idx p.Vars ad).bind fun ae=>if 0<ae.Type_.Len then((e.Args[0]?).bind fun aw=>(I p aw).bind fun ax=>if ax=2 then(some ae.Type_.Kind)else(some 0))else(some 0)))else(if e.Op=4 then((zbp p e.Name).bind fun af=>if af<0 then(some 0)else((idx p.Blocks af).bind fun ay=>(za5 ay.Kind).bind fun ai=>if e.N<0 then(some 0)else(if(ai.length:Int)<=e.N then(some 0)else((idx ai e.N).bind fun aj=>some aj))))else(if e.Op=21 then((zcv p e.Name).bind fun ak=>if ak<0 then(some 0)else((e.Args[0]?).bind fun al=>(I p al).bind fun an=>some an))else((e.Args[0]?).bind fun ao=>(I p ao).bind fun U=>if 1<(e.Args.length:Int)then((e.Args[1]?).bind fun aq=>(I p aq).bind fun ar=>if ar=U then((zag e.Op U).bind fun au=>some au)else(some 0))else((zag e.Op U).bind fun av=>some av))))))
def zao:Nat->(xtm->xtn->Option Int)
 |0=>fun _ _=>none
 |n+1=>zat (zao n)
def zu1 (n:Nat) (p:xtm) (e:xtn):Option Int:=(zao n) p e
def zaj (p:xtm) (e:xtn):Option Int:=zu1 1000000 p e
def zh2 (I:(List xtp)->Str->Option Bool) (l:List xtp) (name:Str):Nat->Option ((Nat)⊕(Bool⊕Unit))
 |aa=>if(aa:Int)<(l.length:Int)then((l[aa]?).bind fun U=>if U.Kind=1 then(if U.Target.Name=name then(some (.inr (.inl (true))))else(if U.Kind=4 then none else((I U.Body name).bind fun ad=>if ad=true then(some (.inr (.inl (true))))else((I U.Else name).bind fun ae=>if ae=true then(some (.inr (.inl (true))))else(some (.inl (aa+1)))))))else(if U.Kind=4 then(if U.Name=name then(some (.inr (.inl (true))))else((I U.Body name).bind fun af=>if af=true then(some (.inr (.inl (true))))else((I U.Else name).bind fun ai=>if ai=true then(some (.inr (.inl (true))))else(some (.inl (aa+1))))))else((I U.Body name).bind fun aj=>if aj=true then(some (.inr (.inl (true))))else((I U.Else name).bind fun ab=>if ab=true then(some (.inr (.inl (true))))else(some (.inl (aa+1)))))))else(some (.inr (.inr (()))))
def zfh (I:(List xtp)->Str->Option Bool) (l:List xtp) (name:Str):Option Bool:=
 (loop (zh2 I l name) 0).bind (fun aa=>match aa with|(.inl U)=>some U|(.inr ())=>some false)
def zfg:Nat->((List xtp)->Str->Option Bool)
 |0=>fun _ _=>none
 |n+1=>zfh (zfg n)
def zuz (n:Nat) (l:List xtp) (name:Str):Option Bool:=(zfg n) l name
def zhl (l:List xtp) (name:Str):Option Bool:=zuz 1000000 l name
def zhm (p:xtm) (s:xtp):Option Bool:=
 (za0 p s.Name).bind fun U=>if U<0 then(some false)else((idx p.Vars U).bind fun I=>if I.Mode=0 then(if I.Type_.Len=0 then(if I.Type_.Kind=2 then((s.Args[0]?).bind fun ae=>(zaj p ae).bind fun af=>if af=I.Type_.Kind then((s.Args[1]?).bind fun ai=>(zaj p ai).bind fun aj=>if aj=I.Type_.Kind then((zhl s.Body s.Name).bind fun ak=>some (!ak))else(some false))else(some false))else(if I.Type_.Kind=3 then((s.Args[0]?).bind fun al=>(zaj p al).bind fun an=>if an=I.Type_.Kind then((s.Args[1]?).bind fun aa=>(zaj p aa).bind fun ab=>if ab=I.Type_.Kind then((zhl s.Body s.Name).bind fun ad=>some (!ad))else(some false))else(some false))else(some false)))else(some false))else(some false))
def zkd (p:xtm) (s:xtp) (U:(List Int)):Nat->Option ((Nat)⊕(Bool⊕Unit))
 |I=>if(I:Int)<(U.length:Int)then((s.Args[I]?).bind fun aa=>(zaj p aa).bind fun ab=>(U[I]?).bind fun ad=>if ab=ad then(some (.inl (I+1)))else(some (.inr (.inl (false)))))else(some (.inr (.inr (()))))
def zhn (p:xtm) (s:xtp):Option Bool:=
 (zbp p s.Name).bind fun I=>if I<0 then(some false)else((idx p.Blocks I).bind fun ab=>(zdx ab.Kind).bind fun U=>if(U.length:Int)=(s.Args.length:Int)then((loop (zkd p s U) 0).bind (fun ad=>match ad with|(.inl aa)=>some aa|(.inr ())=>some true))else(some false))
def zfy (p:xtm) (s:xtp):Option Bool:=
 if s.Kind=1 then((za0 p s.Target.Name).bind fun I=>(zaj p s.Target).bind fun U=>if 0<=I then((idx p.Vars I).bind fun aa=>if aa.Mode=1 then(some false)else(if U=0 then(some false)else((zaj p s.Value).bind fun ab=>some (decide (U=ab)))))else(some false))else(if s.Kind=2 then((zaj p s.Value).bind fun ad=>some (decide (ad=1)))else(if s.Kind=3 then((zaj p s.Value).bind fun ae=>some (decide (ae=1)))else(if s.Kind=4 then((zhm p s).bind fun af=>some af)else((zhn p s).bind fun ai=>some ai))))
def zgt (I:xtm->(List xtp)->Option Bool) (p:xtm) (l:List xtp):Nat->Option ((Nat)⊕(Bool⊕Unit))
 |U=>if(U:Int)<(l.length:Int)then((l[U]?).bind fun aa=>(zfy p aa).bind fun ab=>if ab=true then((I p aa.Body).bind fun ad=>if ad=true then((I p aa.Else).bind fun ae=>if ae=true then(some (.inl (U+1)))else(some (.inr (.inl (false)))))else(some (.inr (.inl (false)))))else(some (.inr (.inl (false)))))else(some (.inr (.inr (()))))
def zcj (I:xtm->(List xtp)->Option Bool) (p:xtm) (l:List xtp):Option Bool:=
 (loop (zgt I p l) 0).bind (fun U=>match U with|(.inl aa)=>some aa|(.inr ())=>some true)
def zdj:Nat->(xtm->(List xtp)->Option Bool)
 |0=>fun _ _=>none
 |n+1=>zcj (zdj n)
def zty (n:Nat) (p:xtm) (l:List xtp):Option Bool:=(zdj n) p l
def zdc (p:xtm) (l:List xtp):Option Bool:=zty 1000000 p l
def zd7 (p:xtm):Nat->Option ((Nat)⊕(Int⊕Unit))
 |I=>if(I:Int)<(p.Tasks.length:Int)then((p.Tasks[I]?).bind fun U=>(zdc p U.Body).bind fun aa=>if aa=true then(some (.inl (I+1)))else(some (.inr (.inl (6)))))else(some (.inr (.inr (()))))
def zd8 (p:xtm):Nat->Option ((Nat)⊕(Int⊕Unit))
 |I=>if(I:Int)<(p.Blocks.length:Int)then((p.Blocks[I]?).bind fun U=>(zdx U.Kind).bind fun aa=>if(aa.length:Int)=0 then(some (.inr (.inl (6))))else(some (.inl (I+1))))else(some (.inr (.inr (()))))
def zd9 (p:xtm):Nat->Option ((Nat)⊕(Int⊕Unit))
 |U=>if(U:Int)<(p.Vars.length:Int)then((p.Vars[U]?).bind fun I=>(zbr I.Type_).bind fun aa=>if aa=0 then(if I.Mode=0 then((zbs I.Type_.Kind I.Safe).bind fun ab=>if ab=true then(some (.inl (U+1)))else(some (.inr (.inl (6)))))else(if I.Type_.Len=0 then((zbs I.Type_.Kind I.Safe).bind fun ad=>if ad=true then(some (.inl (U+1)))else(some (.inr (.inl (6)))))else(some (.inr (.inl (6))))))else(some (.inr (.inl (6)))))else(some (.inr (.inr (()))))
def zbg (p:xtm):Option Int:=
 (loop (zd9 p) 0).bind (fun I=>match I with|(.inl ab)=>some ab|(.inr ())=>(loop (zd8 p) 0).bind (fun I=>match I with|(.inl U)=>some U|(.inr ())=>(loop (zd7 p) 0).bind (fun I=>match I with|(.inl aa)=>some aa|(.inr ())=>some 0)))
def zkz (p:xtm):((List Int)×Nat)->Option (((List Int)×Nat)⊕(List Int))
 |(I,U)=>if(U:Int)<(p.Sites.length:Int)then((p.Sites[U]?).bind fun aa=>need ((I.length+2)*8<=140737488355328) (some (.inl ((I++[aa.From,aa.To]),(U+1)))))else(some (.inr (I)))
def zk0 (p:xtm) (labels:List Int):((List Int)×Nat)->Option (((List Int)×Nat)⊕(List Int))
 |(I,U)=>if(U:Int)<(w64 ((p.Vars.length:Int)+(p.Blocks.length:Int)))then(if(U:Int)<(labels.length:Int)then((labels[U]?).bind fun aa=>need ((I.length+1)*8<=140737488355328) (some (.inl ((I++[aa]),(U+1)))))else(need ((I.length+1)*8<=140737488355328) (some (.inl ((I++[(-1)]),(U+1))))))else(some (.inr (I)))
def zdg (p:xtm) (labels:List Int):Option (List Int):=
 (loop (zk0 p labels) ([],0)).bind (fun U=>(loop (zkz p) (U,0)).bind (fun I=>some I))
def zcq (l:xtq) (aa:Nat):(Bool×Nat)->Option ((Bool×Nat)⊕(Bool))
 |(I,U)=>if(U:Int)<(l.Names.length:Int)then(if I=true then((zal l (aa:Int) (U:Int)).bind fun ab=>some (.inl (ab,(U+1))))else(some (.inr (I))))else(some (.inr (I)))
def zd1 (l:xtq):Nat->Option ((Nat)⊕(Int⊕Unit))
 |I=>if(I:Int)<(l.Names.length:Int)then((loop (zcq l I) (true,0)).bind (fun U=>if U=true then(some (.inr (.inl ((I:Int)))))else(some (.inl (I+1)))))else(some (.inr (.inr (()))))
def zd2 (l:xtq):Option Int:=
 (loop (zd1 l) 0).bind (fun U=>match U with|(.inl I)=>some I|(.inr ())=>some (-1))
def zhb (l:xtq) (labels:List Int) (rules:List (A2 Int)):Nat->Option ((Nat)⊕(Bool⊕Unit))
 |U=>if(U:Int)<(rules.length:Int)then((rules[U]?).bind fun I=>if I.a0<0 then(some (.inr (.inl (false))))else(if(labels.length:Int)<=I.a0 then(some (.inr (.inl (false))))else(if I.a1<0 then(some (.inr (.inl (false))))else(if(labels.length:Int)<=I.a1 then(some (.inr (.inl (false))))else((idx labels I.a0).bind fun aa=>(idx labels I.a1).bind fun ab=>(zal l aa ab).bind fun ad=>if ad=true then(some (.inl (U+1)))else(some (.inr (.inl (false)))))))))else(some (.inr (.inr (()))))
def zgm (l:xtq) (labels:List Int) (rules:List (A2 Int)):Option Bool:=
 (loop (zhb l labels rules) 0).bind (fun I=>match I with|(.inl U)=>some U|(.inr ())=>some true)
def zcc (l:xtq) (fixed:List Int) (rules:List (A2 Int)):((List Int)×Bool×Nat)->Option (((List Int)×Bool×Nat)⊕(((List Int)×Bool)⊕((List Int)×Bool)))
 |(I,U,aa)=>if(aa:Int)<(rules.length:Int)then((rules[aa]?).bind fun ab=>(idx I ab.a0).bind fun ad=>(idx I ab.a1).bind fun ae=>(zal l ad ae).bind fun ai=>if ai=true then(some (.inl (I,U,(aa+1))))else((idx fixed ab.a1).bind fun aj=>if aj=(-1)then((zcd l ad ae).bind fun af=>if af<0 then(some (.inr (.inl (([],false)))))else(some (.inl ((I.set ab.a1.toNat af),true,(aa+1)))))else(some (.inl (I,U,(aa+1))))))else(some (.inr (.inr ((I,U)))))
def zc7 (l:xtq) (fixed:List Int) (rules:List (A2 Int)):((List Int)×Bool)->Option (((List Int)×Bool)⊕(((List Int)×Bool)⊕(List Int)))
 |(I,U)=>if U=true then((loop (zcc l fixed rules) (I,false,0)).bind (fun ae=>match ae with|(.inl ad)=>some (.inr (.inl (ad)))|(.inr (ab,aa))=>some (.inl (ab,aa))))else(some (.inr (.inr (I))))
def zec (rules:List (A2 Int)) (U:List Int):Nat->Option ((Nat)⊕(((List Int)×Bool)⊕Unit))
 |aa=>if(aa:Int)<(rules.length:Int)then((rules[aa]?).bind fun I=>if I.a0<0 then(some (.inr (.inl (([],false)))))else(if(U.length:Int)<=I.a0 then(some (.inr (.inl (([],false)))))else(if I.a1<0 then(some (.inr (.inl (([],false)))))else(if(U.length:Int)<=I.a1 then(some (.inr (.inl (([],false)))))else(some (.inl (aa+1)))))))else(some (.inr (.inr (()))))
def zed (l:xtq) (fixed:List Int) (ab:Int):((List Int)×Nat)->Option (((List Int)×Nat)⊕(((List Int)×Bool)⊕(List Int)))
 |(I,U)=>if(U:Int)<(fixed.length:Int)then((fixed[U]?).bind fun aa=>if aa=(-1)then((zbb l ab).bind fun ae=>if ae=true then(need ((I.length+1)*8<=140737488355328) (some (.inl ((I++[ab]),(U+1)))))else(some (.inr (.inl (([],false))))))else((zbb l aa).bind fun ad=>if ad=true then(need ((I.length+1)*8<=140737488355328) (some (.inl ((I++[aa]),(U+1)))))else(some (.inr (.inl (([],false)))))))else(some (.inr (.inr (I))))
def zgl (l:xtq) (fixed:List Int) (rules:List (A2 Int)):Option ((List Int)×Bool):=
 (zd2 l).bind fun ab=>if ab<0 then(some ([],false))else((loop (zed l fixed ab) ([],0)).bind (fun I=>match I with|(.inl ad)=>some ad|(.inr U)=>(loop (zec rules U) 0).bind (fun I=>match I with|(.inl ae)=>some ae|(.inr ())=>(loop (zc7 l fixed rules) (U,true)).bind (fun I=>match I with|(.inl af)=>some af|(.inr aa)=>(zgm l aa rules).bind fun ai=>if ai=true then(some (aa,true))else(some ([],false))))))
def zj8 (p:xtm):((List Int)×Nat)->Option (((List Int)×Nat)⊕(List Int))
 |(I,U)=>if(U:Int)<(p.Blocks.length:Int)then((p.Blocks[U]?).bind fun aa=>need ((I.length+1)*8<=140737488355328) (some (.inl ((I++[aa.Label]),(U+1)))))else(some (.inr (I)))
def zj9 (p:xtm):((List Int)×Nat)->Option (((List Int)×Nat)⊕(List Int))
 |(I,U)=>if(U:Int)<(p.Vars.length:Int)then((p.Vars[U]?).bind fun aa=>need ((I.length+1)*8<=140737488355328) (some (.inl ((I++[aa.Label]),(U+1)))))else(some (.inr (I)))
def zhk (p:xtm):Option (List Int):=
 (loop (zj9 p) ([],0)).bind (fun U=>(loop (zj8 p) (U,0)).bind (fun I=>some I))
def zhe (p:xtm) (i:Int):Option Int:=
 some (w64 ((w64 ((w64 ((p.Vars.length:Int)+(p.Blocks.length:Int)))+(w64 (2*i))))+1))
def zkx (I:xtm->xtn->Option (List Int)) (p:xtm) (e:xtn):((List Int)×Nat)->Option (((List Int)×Nat)⊕(List Int))
 |(U,aa)=>if(aa:Int)<(e.Args.length:Int)then((e.Args[aa]?).bind fun ad=>(I p ad).bind fun ab=>need ((U.length+ab.length)*8<=140737488355328) (some (.inl ((U++ab),(aa+1)))))else(some (.inr (U)))
def zky (I:xtm->xtn->Option (List Int)) (p:xtm) (e:xtn):((List Int)×Nat)->Option (((List Int)×Nat)⊕(List Int))
 |(U,aa)=>if(aa:Int)<(e.Args.length:Int)then((e.Args[aa]?).bind fun ad=>(I p ad).bind fun ab=>need ((U.length+ab.length)*8<=140737488355328) (some (.inl ((U++ab),(aa+1)))))else(some (.inr (U)))
def zdb (I:xtm->xtn->Option (List Int)) (p:xtm) (e:xtn):Option (List Int):=
 if e.Op=2 then((za0 p e.Name).bind fun ab=>some [ab])else(if e.Op=4 then((zbp p e.Name).bind fun ad=>some [(w64 ((p.Vars.length:Int)+ad))])else(if e.Op=21 then((zcv p e.Name).bind fun ae=>(zhe p ae).bind fun af=>some [af])else(if e.Op=3 then((za0 p e.Name).bind fun ai=>(loop (zky I p e) ([ai],0)).bind (fun U=>some U))else((loop (zkx I p e) ([],0)).bind (fun aa=>some aa)))))
def zaz:Nat->(xtm->xtn->Option (List Int))
 |0=>fun _ _=>none
 |n+1=>zdb (zaz n)
def zv6 (n:Nat) (p:xtm) (e:xtn):Option (List Int):=(zaz n) p e
def zdf (p:xtm) (e:xtn):Option (List Int):=zv6 1000000 p e
def zkb (b:List Int) (U:List Int) (ab:Nat):(Bool×Nat)->Option ((Bool×Nat)⊕(Bool))
 |(I,aa)=>if(aa:Int)<(U.length:Int)then(if I=true then(some (.inr (I)))else((U[aa]?).bind fun ad=>(b[ab]?).bind fun ae=>some (.inl ((decide (ad=ae)),(aa+1)))))else(some (.inr (I)))
def zna (b:List Int):((List Int)×Nat)->Option (((List Int)×Nat)⊕(List Int))
 |(I,U)=>if(U:Int)<(b.length:Int)then((loop (zkb b I U) (false,0)).bind (fun aa=>if aa=true then(some (.inl (I,(U+1))))else((b[U]?).bind fun ab=>need ((I.length+1)*8<=140737488355328) (some (.inl ((I++[ab]),(U+1)))))))else(some (.inr (I)))
def zkc (b:List Int) (U:List Int) (ae:Nat):(Bool×Nat)->Option ((Bool×Nat)⊕(Bool))
 |(I,aa)=>if(aa:Int)<(U.length:Int)then(if I=true then(some (.inr (I)))else((U[aa]?).bind fun ab=>(b[ae]?).bind fun ad=>some (.inl ((decide (ab=ad)),(aa+1)))))else(some (.inr (I)))
def znb (b:List Int):((List Int)×Nat)->Option (((List Int)×Nat)⊕(List Int))
 |(I,U)=>if(U:Int)<(b.length:Int)then((loop (zkc b I U) (false,0)).bind (fun ab=>if ab=true then(some (.inl (I,(U+1))))else((b[U]?).bind fun aa=>need ((I.length+1)*8<=140737488355328) (some (.inl ((I++[aa]),(U+1)))))))else(some (.inr (I)))
def zbk (a:List Int) (b:List Int):Option (List Int):=
 if a.isEmpty=true then((loop (znb b) ([],0)).bind (fun U=>some U))else(need (a.length*8<=140737488355328) ((loop (zna b) (a,0)).bind (fun I=>some I)))
def zkw (l:List (A2 Int)) (x:A2 Int):Nat->Option ((Nat)⊕(Nat))
 |I=>if(I:Int)<(l.length:Int)then((l[I]?).bind fun U=>if U.a0<x.a0 then(some (.inl (I+1)))else(if U.a0=x.a0 then(if U.a1<x.a1 then(some (.inl (I+1)))else(some (.inr (I))))else(some (.inr (I)))))else(some (.inr (I)))
def zit (l:List (A2 Int)) (x:A2 Int):Option (List (A2 Int)):=
 if x.a0=x.a1 then(some l)else((loop (zkw l x) 0).bind (fun I=>if(I:Int)<(l.length:Int)then((l[I]?).bind fun U=>if U.a0=x.a0/\U.a1=x.a1 then(some l)else(need (0<=0/\0<=(I:Int)/\(I:Int)<=l.length) (if(l.take I).isEmpty=true then(need (0<=(I:Int)/\(I:Int)<=(l.length:Int)/\(l.length:Int)<=l.length) (need ((1+(l.drop I).length)*16<=140737488355328) (some ([x]++(l.drop I)))))else(need ((l.take I).length*16<=140737488355328) (need (((l.take I).length+1)*16<=140737488355328) (need (0<=(I:Int)/\(I:Int)<=(l.length:Int)/\(l.length:Int)<=l.length) (need (((l.take I).length+1+(l.drop I).length)*16<=140737488355328) (some (((l.take I)++[x])++(l.drop I))))))))))else(need (0<=0/\0<=(I:Int)/\(I:Int)<=l.length) (if(l.take I).isEmpty=true then(need (0<=(I:Int)/\(I:Int)<=(l.length:Int)/\(l.length:Int)<=l.length) (need ((1+(l.drop I).length)*16<=140737488355328) (some ([x]++(l.drop I)))))else(need ((l.take I).length*16<=140737488355328) (need (((l.take I).length+1)*16<=140737488355328) (need (0<=(I:Int)/\(I:Int)<=(l.length:Int)/\(l.length:Int)<=l.length) (need (((l.take I).length+1+(l.drop I).length)*16<=140737488355328) (some (((l.take I)++[x])++(l.drop I)))))))))))
def zka (from_:List Int) (y:Int):((List (A2 Int))×Nat)->Option (((List (A2 Int))×Nat)⊕(List (A2 Int)))
 |(U,I)=>if(I:Int)<(from_.length:Int)then((from_[I]?).bind fun aa=>(zit U (⟨aa,y⟩:A2 Int)).bind fun ab=>some (.inl (ab,(I+1))))else(some (.inr (U)))
def zca (l:List (A2 Int)) (from_:List Int) (y:Int):Option (List (A2 Int)):=
 (loop (zka from_ y) (l,0)).bind (fun I=>some I)
def zmv (I:xtm->(List (A2 Int))->xtn->(List Int)->Option (List (A2 Int))) (p:xtm) (e:xtn) (aa:List Int):((List (A2 Int))×Nat)->Option (((List (A2 Int))×Nat)⊕(List (A2 Int)))
 |(ab,U)=>if(U:Int)<(e.Args.length:Int)then((e.Args[U]?).bind fun ad=>(I p ab ad aa).bind fun ae=>some (.inl (ae,(U+1))))else(some (.inr (ab)))
def zmw (I:xtm->(List (A2 Int))->xtn->(List Int)->Option (List (A2 Int))) (p:xtm) (e:xtn) (U:List Int):((List (A2 Int))×Nat)->Option (((List (A2 Int))×Nat)⊕(List (A2 Int)))
 |(ab,aa)=>if(aa:Int)<(e.Args.length:Int)then((e.Args[aa]?).bind fun ad=>(I p ab ad U).bind fun ae=>some (.inl (ae,(aa+1))))else(some (.inr (ab)))
def zes (I:xtm->(List (A2 Int))->xtn->(List Int)->Option (List (A2 Int))) (p:xtm) (l:List (A2 Int)) (e:xtn) (U:List Int):Option (List (A2 Int)):=
 if e.Op=21 then((zcv p e.Name).bind fun ad=>(zhe p ad).bind fun aa=>(e.Args[0]?).bind fun ae=>(zdf p ae).bind fun af=>(zca l af (w64 (aa-1))).bind fun ai=>(zca ai U aa).bind fun aj=>(loop (zmw I p e U) (aj,0)).bind (fun ak=>some ak))else((loop (zmv I p e U) (l,0)).bind (fun ab=>some ab))
def zch:Nat->(xtm->(List (A2 Int))->xtn->(List Int)->Option (List (A2 Int)))
 |0=>fun _ _ _ _=>none
 |n+1=>zes (zch n)
def ztv (n:Nat) (p:xtm) (l:List (A2 Int)) (e:xtn) (I:List Int):Option (List (A2 Int)):=(zch n) p l e I
def zf9 (p:xtm) (l:List (A2 Int)) (e:xtn) (I:List Int):Option (List (A2 Int)):=ztv 1000000 p l e I
def zjn (p:xtm) (t:List xtn) (I:List Int):((List (A2 Int))×(List Int)×Nat)->Option (((List (A2 Int))×(List Int)×Nat)⊕((List (A2 Int))×(List Int)))
 |(aa,h_2,U)=>if(U:Int)<(t.length:Int)then((t[U]?).bind fun ab=>(zf9 p aa ab I).bind fun ad=>(zdf p ab).bind fun ae=>(zbk h_2 ae).bind fun af=>some (.inl (ad,af,(U+1))))else(some (.inr ((aa,h_2))))
def zda (p:xtm) (l:List (A2 Int)) (t:List xtn) (I:List Int):Option ((List (A2 Int))×(List Int)):=
 (loop (zjn p t I) (l,[],0)).bind (fun(U,aa)=>some (U,aa))
def zga (s:xtp):Option (List xtn):=
 if s.Target.Op=3 then((s.Target.Args[0]?).bind fun I=>some [I,s.Value])else(some [s.Value])
def zjo (I:xtm->(List (A2 Int))->(List xtp)->(List Int)->Option (List (A2 Int))) (p:xtm) (s:List xtp) (U:List Int):((List (A2 Int))×Nat)->Option (((List (A2 Int))×Nat)⊕(List (A2 Int)))
 |(ad,ab)=>if(ab:Int)<(s.length:Int)then((s[ab]?).bind fun aa=>if aa.Kind=1 then((zga aa).bind fun aG=>(zda p ad aG U).bind fun al=>(zbk al.2 U).bind fun aH=>(za0 p aa.Target.Name).bind fun aI=>(zca al.1 aH aI).bind fun an=>some (.inl (an,(ab+1))))else(if aa.Kind=2 then((zdf p aa.Value).bind fun ao=>(zbk U ao).bind fun af=>if aa.Kind=3 then none else((zf9 p ad aa.Value U).bind fun aq=>(I p aq aa.Body af).bind fun ar=>(I p ar aa.Else af).bind fun au=>some (.inl (au,(ab+1)))))else(if aa.Kind=3 then((zdf p aa.Value).bind fun av=>(zbk U av).bind fun ae=>(zf9 p ad aa.Value ae).bind fun aw=>(I p aw aa.Body ae).bind fun ax=>(I p ax aa.Else ae).bind fun ay=>some (.inl (ay,(ab+1))))else(if aa.Kind=4 then((za0 p aa.Name).bind fun ai=>(zda p ad aa.Args U).bind fun aj=>(zbk aj.2 U).bind fun az=>(zca aj.1 az ai).bind fun aA=>(zbk U [ai]).bind fun aB=>(I p aA aa.Body aB).bind fun aC=>some (.inl (aC,(ab+1))))else(if aa.Kind=5 then((zda p ad aa.Args U).bind fun ak=>(zbk ak.2 U).bind fun aD=>(zbp p aa.Name).bind fun aE=>(zca ak.1 aD (w64 ((p.Vars.length:Int)+aE))).bind fun aF=>some (.inl (aF,(ab+1))))else(some (.inl (ad,(ab+1)))))))))else(some (.inr (ad)))
def zer (I:xtm->(List (A2 Int))->(List xtp)->(List Int)->Option (List (A2 Int))) (p:xtm) (l:List (A2 Int)) (s:List xtp) (U:List Int):Option (List (A2 Int)):=
 (loop (zjo I p s U) (l,0)).bind (fun aa=>some aa)
def zdi:Nat->(xtm->(List (A2 Int))->(List xtp)->(List Int)->Option (List (A2 Int)))
 |0=>fun _ _ _ _=>none
 |n+1=>zer (zdi n)
def ztu (n:Nat) (p:xtm) (l:List (A2 Int)) (s:List xtp) (I:List Int):Option (List (A2 Int)):=(zdi n) p l s I
def zoq (p:xtm) (l:List (A2 Int)) (s:List xtp) (I:List Int):Option (List (A2 Int)):=ztu 1000000 p l s I
def zjq (p:xtm):((List (A2 Int))×Nat)->Option (((List (A2 Int))×Nat)⊕(List (A2 Int)))
 |(U,I)=>if(I:Int)<(p.Tasks.length:Int)then((p.Tasks[I]?).bind fun aa=>(zoq p U aa.Body []).bind fun ab=>some (.inl (ab,(I+1))))else(some (.inr (U)))
def zgb (p:xtm):Option (List (A2 Int)):=
 (loop (zjq p) ([],0)).bind (fun I=>some I)
def zbo (p:xtm):Option ((List Int)×Int):=
 (zhk p).bind fun U=>(zdg p U).bind fun aa=>(zgb p).bind fun ab=>(zgl p.Lattice aa ab).bind fun I=>if I.2=true then(need (0<=0/\0<=(w64 ((p.Vars.length:Int)+(p.Blocks.length:Int)))/\(w64 ((p.Vars.length:Int)+(p.Blocks.length:Int)))<=I.1.length) (some ((I.1.take (w64 ((p.Vars.length:Int)+(p.Blocks.length:Int))).toNat),0)))else(some ([],7))
def zms (ae:(List Int)×Int) (ab:List xtv):((List xt1)×Nat)->Option (((List xt1)×Nat)⊕(List xt1))
 |(I,U)=>if(U:Int)<(I.length:Int)then((idx ae.1 (w64 ((ab.length:Int)+(U:Int)))).bind fun ad=>(I[U]?).bind fun aa=>some (.inl ((I.set U (⟨aa.Name,aa.Kind,ad⟩:xt1)),(U+1))))else(some (.inr (I)))
def zmt (ad:(List Int)×Int):((List xtv)×Nat)->Option (((List xtv)×Nat)⊕(List xtv))
 |(I,U)=>if(U:Int)<(I.length:Int)then((ad.1[U]?).bind fun ab=>(I[U]?).bind fun aa=>some (.inl ((I.set U (⟨aa.Name,aa.Type_,aa.Mode,ab,aa.Safe⟩:xtv)),(U+1))))else(some (.inr (I)))
def zjh (aa:(List Int)×Int) (U:List xtv):Int->Option ((Int)⊕(Unit))
 |I=>if I<0 then((idx aa.1 (w64 ((U.length:Int)+I))).bind fun ab=>none)else(some (.inr (())))
def zmu (ad:(List Int)×Int):((List xtv)×Nat)->Option (((List xtv)×Nat)⊕(List xtv))
 |(I,U)=>if(U:Int)<(I.length:Int)then((ad.1[U]?).bind fun ab=>(I[U]?).bind fun aa=>some (.inl ((I.set U (⟨aa.Name,aa.Type_,aa.Mode,ab,aa.Safe⟩:xtv)),(U+1))))else(some (.inr (I)))
def zji (ad:(List Int)×Int):((List xt1)×Nat)->Option (((List xt1)×Nat)⊕(List xt1))
 |(I,U)=>if(U:Int)<(I.length:Int)then((idx ad.1 (w64 (0+(U:Int)))).bind fun ab=>(I[U]?).bind fun aa=>some (.inl ((I.set U (⟨aa.Name,aa.Kind,ab⟩:xt1)),(U+1))))else(some (.inr (I)))
def zjj (U:(List Int)×Int):Int->Option ((Int)⊕(Unit))
 |I=>if I<0 then((idx U.1 I).bind fun aa=>none)else(some (.inr (())))
def zjk (U:(List Int)×Int):Int->Option ((Int)⊕(Unit))
 |I=>if I<0 then((idx U.1 (w64 (0+I))).bind fun aa=>none)else(some (.inr (())))
def zjl (U:(List Int)×Int):Int->Option ((Int)⊕(Unit))
 |I=>if I<0 then((idx U.1 I).bind fun aa=>none)else(some (.inr (())))
def zf8 (p:xtm):Option (xtm×Int):=
 (zhj p).bind fun ao=>if ao=true then((zgn p.Lattice).bind fun ae=>if ae=0 then((zgd p).bind fun af=>if af=0 then((zbg p).bind fun ai=>if ai=0 then((zbo p).bind fun I=>if I.2=0 then(if p.Vars.isEmpty=true then(if p.Blocks.isEmpty=true then((loop (zjl I) 0).bind (fun _=>(loop (zjk I) 0).bind (fun _=>(zbq (⟨p.Lattice,p.Sites,[],[],p.Tasks⟩:xtm)).bind fun aj=>if aj=true then(some ((⟨p.Lattice,p.Sites,[],[],p.Tasks⟩:xtm),0))else(some ((⟨(⟨[],[]⟩:xtq),[],[],[],[]⟩:xtm),3)))))else(need (p.Blocks.length*40<=140737488355328) ((loop (zjj I) 0).bind (fun _=>(loop (zji I) (p.Blocks,0)).bind (fun ab=>(zbq (⟨p.Lattice,p.Sites,[],ab,p.Tasks⟩:xtm)).bind fun ak=>if ak=true then(some ((⟨p.Lattice,p.Sites,[],ab,p.Tasks⟩:xtm),0))else(some ((⟨(⟨[],[]⟩:xtq),[],[],[],[]⟩:xtm),3)))))))else(need (p.Vars.length*64<=140737488355328) (if p.Blocks.isEmpty=true then((loop (zmu I) (p.Vars,0)).bind (fun U=>(loop (zjh I U) 0).bind (fun _=>(zbq (⟨p.Lattice,p.Sites,U,[],p.Tasks⟩:xtm)).bind fun al=>if al=true then(some ((⟨p.Lattice,p.Sites,U,[],p.Tasks⟩:xtm),0))else(some ((⟨(⟨[],[]⟩:xtq),[],[],[],[]⟩:xtm),3)))))else(need (p.Blocks.length*40<=140737488355328) ((loop (zmt I) (p.Vars,0)).bind (fun aa=>(loop (zms I aa) (p.Blocks,0)).bind (fun ad=>(zbq (⟨p.Lattice,p.Sites,aa,ad,p.Tasks⟩:xtm)).bind fun an=>if an=true then(some ((⟨p.Lattice,p.Sites,aa,ad,p.Tasks⟩:xtm),0))else(some ((⟨(⟨[],[]⟩:xtq),[],[],[],[]⟩:xtm),3)))))))))else(some ((⟨(⟨[],[]⟩:xtq),[],[],[],[]⟩:xtm),I.2)))else(some ((⟨(⟨[],[]⟩:xtq),[],[],[],[]⟩:xtm),ai)))else(some ((⟨(⟨[],[]⟩:xtq),[],[],[],[]⟩:xtm),af)))else(some ((⟨(⟨[],[]⟩:xtq),[],[],[],[]⟩:xtm),ae)))else(some ((⟨(⟨[],[]⟩:xtq),[],[],[],[]⟩:xtm),3))
def zij (a:xtq) (b:xtq):Nat->Option ((Nat)⊕(Bool⊕Unit))
 |I=>if(I:Int)<(a.Below.length:Int)then((a.Below[I]?).bind fun U=>(b.Below[I]?).bind fun aa=>if U.a0=aa.a0/\U.a1=aa.a1 then(some (.inl (I+1)))else(some (.inr (.inl (false)))))else(some (.inr (.inr (()))))
def zik (a:xtq) (b:xtq):Nat->Option ((Nat)⊕(Bool⊕Unit))
 |I=>if(I:Int)<(a.Names.length:Int)then((a.Names[I]?).bind fun U=>(b.Names[I]?).bind fun aa=>if U=aa then(some (.inl (I+1)))else(some (.inr (.inl (false)))))else(some (.inr (.inr (()))))
def zhx (a:xtq) (b:xtq):Option Bool:=
 if(a.Names.length:Int)=(b.Names.length:Int)then(if(a.Below.length:Int)=(b.Below.length:Int)then((loop (zik a b) 0).bind (fun I=>match I with|(.inl aa)=>some aa|(.inr ())=>(loop (zij a b) 0).bind (fun I=>match I with|(.inl U)=>some U|(.inr ())=>some true)))else(some false))else(some false)
def zdn (a:List Int) (b:List Int):Nat->Option ((Nat)⊕(Bool⊕Unit))
 |I=>if(I:Int)<(a.length:Int)then((a[I]?).bind fun U=>(b[I]?).bind fun aa=>if U=aa then(some (.inl (I+1)))else(some (.inr (.inl (false)))))else(some (.inr (.inr (()))))
def zbl (a:List Int) (b:List Int):Option Bool:=
 if(a.length:Int)=(b.length:Int)then((loop (zdn a b) 0).bind (fun I=>match I with|(.inl U)=>some U|(.inr ())=>some true))else(some false)
def zif (I:(List xtp)->(List xtp)->Option Bool) (a:List xtp) (b:List xtp):Nat->Option ((Nat)⊕(Bool⊕Unit))
 |ab=>if(ab:Int)<(a.length:Int)then((a[ab]?).bind fun U=>(b[ab]?).bind fun aa=>if U.Kind=aa.Kind then(if U.Name=aa.Name then((zdw U.Target aa.Target).bind fun ae=>if ae=true then((zdw U.Value aa.Value).bind fun af=>if af=true then((zdw (⟨0,0,0,[],U.Args⟩:xtn) (⟨0,0,0,[],aa.Args⟩:xtn)).bind fun ai=>if ai=true then((I U.Body aa.Body).bind fun aj=>if aj=true then((I U.Else aa.Else).bind fun ad=>if ad=true then(some (.inl (ab+1)))else(some (.inr (.inl (false)))))else(some (.inr (.inl (false)))))else(some (.inr (.inl (false)))))else(some (.inr (.inl (false)))))else(some (.inr (.inl (false)))))else(some (.inr (.inl (false)))))else(some (.inr (.inl (false)))))else(some (.inr (.inr (()))))
def zfn (I:(List xtp)->(List xtp)->Option Bool) (a:List xtp) (b:List xtp):Option Bool:=
 if(a.length:Int)=(b.length:Int)then((loop (zif I a b) 0).bind (fun aa=>match aa with|(.inl U)=>some U|(.inr ())=>some true))else(some false)
def zfm:Nat->((List xtp)->(List xtp)->Option Bool)
 |0=>fun _ _=>none
 |n+1=>zfn (zfm n)
def zu7 (n:Nat) (a:List xtp) (b:List xtp):Option Bool:=(zfm n) a b
def zlz (a:List xtp) (b:List xtp):Option Bool:=zu7 1000000 a b
def zg3 (a:xt4) (b:xt4):Option Bool:=
 if a.Every=b.Every then(if a.Priority=b.Priority then((zbl a.Budget b.Budget).bind fun I=>if I=true then((zlz a.Body b.Body).bind fun U=>some U)else(some false))else(some false))else(some false)
def zia (a:xtm) (b:xtm):Nat->Option ((Nat)⊕(Bool⊕Unit))
 |I=>if(I:Int)<(a.Tasks.length:Int)then((a.Tasks[I]?).bind fun U=>(b.Tasks[I]?).bind fun aa=>(zg3 U aa).bind fun ab=>if ab=true then(some (.inl (I+1)))else(some (.inr (.inl (false)))))else(some (.inr (.inr (()))))
def zib (a:xtm) (b:xtm):Nat->Option ((Nat)⊕(Bool⊕Unit))
 |I=>if(I:Int)<(a.Blocks.length:Int)then((a.Blocks[I]?).bind fun U=>(b.Blocks[I]?).bind fun aa=>if U.Name=aa.Name/\U.Kind=aa.Kind/\U.Label=aa.Label then(some (.inl (I+1)))else(some (.inr (.inl (false)))))else(some (.inr (.inr (()))))
def zic (a:xtm) (b:xtm):Nat->Option ((Nat)⊕(Bool⊕Unit))
 |aa=>if(aa:Int)<(a.Vars.length:Int)then((a.Vars[aa]?).bind fun I=>(b.Vars[aa]?).bind fun U=>if I.Name=U.Name/\I.Type_.Kind=U.Type_.Kind/\I.Type_.Low=U.Type_.Low/\I.Type_.Len=U.Type_.Len/\I.Mode=U.Mode/\I.Label=U.Label/\I.Safe=U.Safe then(some (.inl (aa+1)))else(some (.inr (.inl (false)))))else(some (.inr (.inr (()))))
def zid (a:xtm) (b:xtm):Nat->Option ((Nat)⊕(Bool⊕Unit))
 |I=>if(I:Int)<(a.Sites.length:Int)then((a.Sites[I]?).bind fun U=>(b.Sites[I]?).bind fun aa=>if U.Name=aa.Name/\U.From=aa.From/\U.To=aa.To then(some (.inl (I+1)))else(some (.inr (.inl (false)))))else(some (.inr (.inr (()))))
def zhr (a:xtm) (b:xtm):Option Bool:=
 (zhx a.Lattice b.Lattice).bind fun ad=>if ad=true then(if(a.Sites.length:Int)=(b.Sites.length:Int)then(if(a.Vars.length:Int)=(b.Vars.length:Int)then(if(a.Blocks.length:Int)=(b.Blocks.length:Int)then(if(a.Tasks.length:Int)=(b.Tasks.length:Int)then((loop (zid a b) 0).bind (fun I=>match I with|(.inl ae)=>some ae|(.inr ())=>(loop (zic a b) 0).bind (fun I=>match I with|(.inl U)=>some U|(.inr ())=>(loop (zib a b) 0).bind (fun I=>match I with|(.inl aa)=>some aa|(.inr ())=>(loop (zia a b) 0).bind (fun I=>match I with|(.inl ab)=>some ab|(.inr ())=>some true)))))else(some false))else(some false))else(some false))else(some false))else(some false)
def zfx (p:xtm):Option Bool:=
 (zf8 p).bind fun I=>if I.2=0 then((zhr p I.1).bind fun U=>some U)else(some false)
end
theorem zs7 {I:xtn->Int->Int->Option Int} {e:xtn} {deep:Int} {left:Int} {r:Int}
  (U:∀(x0:xtn) (x1:Int) (x2:Int) (r:Int),I x0 x1 x2=some r->Pu prog 76 [.agg (xto x0),.one (.int .i64 x1),.one (.int .i64 x2)] (.one (.int .i64 r))) (h:zgq I e deep left=some r):
  Pu prog 76 [.agg (xto e),.one (.int .i64 deep),.one (.int .i64 left)] (.one (.int .i64 r)):=by
 have F:=trivial;have R:=trivial
 refine pA func76 ?_;simp only[f76];unfold zgq at h;refine tr ?_;intros;refine fi h F ?_ ?_<;>intro h _ F;cases h;exact fin;refine fi h F ?_ ?_<;>intro h _ F;cases h;exact fin;refine bi h fun af h aj=>?_;refine tt ?_
 refine lX aj (fun|(ab,ad),_=>⟨[(1,.one (.int .i64 deep)),(2,.one (.int .i64 ab)),(3,.one (.ref 0 0 0 0)),(7,.one (.int .i64 (ad:Int)))],[.cells 0 5 [[.int .i64 e.Op,.int .i64 e.N,.int .i64 e.Kind,.str e.Name,.sl (e.Args.map xto)]]]⟩) (fun|af,_=>⟨[(2,.one (.int .i64 af))],[.cells 0 5 [[.int .i64 e.Op,.int .i64 e.N,.int .i64 e.Kind,.str e.Name,.sl (e.Args.map xto)]]]⟩) (fun _=>some 0) ?_ ?_
 intro i4 b4 al;obtain rfl:=Wab al;obtain⟨⟩:=b4;dsimp only at h|-;cases h;exact fin;intro ai m4 s4 a4 o4 aa ae an;obtain⟨ab,ad⟩:=s4;obtain⟨⟩:=a4;dsimp only[zd4]at aa|-;refine tr ?_;intros;refine fl aa F ?_ ?_<;>intro aa _ F;refine fi aa F ?_ ?_<;>intro aa _ F;refine bx aa F fun aq aa ao F=>?_;refine bi aa fun ar aa ak=>?_;refine tr ?_;intros;refine cS (U _ _ _ _ ak) ?_;cases aa
 refine tt ?_;refine wn ad F fun F=>?_;exact bk an ae ();cases aa;refine tt ?_;exact xt ae ai ();cases aa;refine tt ?_;exact xt ae ai ()
theorem zs6 (n:Nat):(∀(I:xtn) (U:Int) (x2:Int) (r:Int),(zde n) I U x2=some r->Pu prog 76 [.agg (xto I),.one (.int .i64 U),.one (.int .i64 x2)] (.one (.int .i64 r))):=by
 induction n with
 |zero=>exact fun _ _ _ r h=>(by cases h)
 |succ n ih=>
  have aa:=ih
  exact fun _ _ _ r h=>zs7 aa h
theorem zd3 {e:xtn} {deep:Int} {left:Int} {r:Int} (h:zdh e deep left=some r):Pu prog 76 [.agg (xto e),.one (.int .i64 deep),.one (.int .i64 left)] (.one (.int .i64 r)):=(zs6 1000000) _ _ _ _ h
theorem zs5 {ab:(List xtp)->Int->Int->Option Int} {l:List xtp} {deep:Int} {left:Int} {r:Int}
  (U:∀(x0:List xtp) (x1:Int) (x2:Int) (r:Int),ab x0 x1 x2=some r->Pu prog 37 [.one (.sl (x0.map xts)),.one (.int .i64 x1),.one (.int .i64 x2)] (.one (.int .i64 r))) (h:zel ab l deep left=some r):
  Pu prog 37 [.one (.sl (l.map xts)),.one (.int .i64 deep),.one (.int .i64 left)] (.one (.int .i64 r)):=by
 have F:=trivial;have R:=trivial
 refine pA func37 ?_;simp only[f37];unfold zel at h;refine tr ?_;intros;refine fi h F ?_ ?_<;>intro h _ F;refine fi h F ?_ ?_<;>intro h _ F;cases h;exact fin;refine tt ?_;refine fi h F ?_ ?_<;>intro h _ F;cases h;exact fin;refine bi h fun aA h aC=>?_;refine tt ?_
 refine lX aC (fun|(al,af),_=>⟨[(0,.one (.sl (l.map xts))),(1,.one (.int .i64 deep)),(2,.one (.int .i64 al)),(7,.one (.int .i64 (af:Int)))],[]⟩) (fun|aA,_=>⟨[(2,.one (.int .i64 aA))],[]⟩) (fun _=>some 0) ?_ ?_
 intro i4 b4 aI;obtain rfl:=Wab aI;obtain⟨⟩:=b4;dsimp only at h|-;cases h;exact fin;intro aB m4 s4 a4 o4 aa ai an;obtain⟨al,af⟩:=s4;obtain⟨⟩:=a4;dsimp only[zb7]at aa|-;refine tr ?_;intros;refine fl aa F ?_ ?_<;>intro aa _ F;refine fi aa F ?_ ?_<;>intro aa _ F;refine bx aa F fun aV aa aN F=>?_;refine bi aa fun aW aa aD=>?_;refine tr ?_;intros;refine cD (zd3 aD) ?_;refine tr ?_
 intros;refine fi aa F ?_ ?_<;>intro aa _ F;refine bi aa fun aX aa aE=>?_;refine tr ?_;intros;refine cS (zd3 aE) ?_;refine fi aa F ?_ ?_<;>intro aa _ F;refine bi aa fun aY aa aF=>?_;refine tr ?_;intros;refine cS (zd3 aF) ?_;refine fi aa F ?_ ?_<;>intro aa _ F;refine bi aa fun aZ aa aG=>?_;refine tr ?_;intros;refine cS (U _ _ _ _ aG) ?_;refine fi aa F ?_ ?_<;>intro aa _ F;refine bi aa fun aO aa ar=>?_
 refine tr ?_;intros;refine cS (U _ _ _ _ ar) ?_;cases aa;refine tt ?_;refine wn af F fun F=>?_;exact bk an ai ();cases aa;refine tt ?_;refine wn af F fun F=>?_;exact bk an ai ();cases aa;refine tt ?_;refine wn af F fun F=>?_;exact bk an ai ();cases aa;refine tt ?_;refine wn af F fun F=>?_;exact bk an ai ();cases aa;refine tt ?_;refine wn af F fun F=>?_;exact bk an ai ();cases aa;refine tt ?_
 exact xt ai aB ();cases aa;refine tt ?_;exact xt ai aB ();refine fi h F ?_ ?_<;>intro h _ F;cases h;exact fin;refine bi h fun ao h au=>?_;refine tt ?_
 refine lX au (fun|(ak,ad),_=>⟨[(0,.one (.sl (l.map xts))),(1,.one (.int .i64 deep)),(2,.one (.int .i64 ak)),(7,.one (.int .i64 (ad:Int)))],[]⟩) (fun|ao,_=>⟨[(2,.one (.int .i64 ao))],[]⟩) (fun _=>some 0) ?_ ?_
 intro i15 aJ aH;obtain rfl:=Wab aH;obtain⟨⟩:=aJ;dsimp only at h|-;cases h;exact fin;intro aq a5 aK aL a6 I ae aj;obtain⟨ak,ad⟩:=aK;obtain⟨⟩:=aL;dsimp only[zk3]at I|-;refine tr ?_;intros;refine fl I F ?_ ?_<;>intro I _ F;refine fi I F ?_ ?_<;>intro I _ F;refine bx I F fun aP I aM F=>?_;refine bi I fun aQ I av=>?_;refine tr ?_;intros;refine cD (zd3 av) ?_;refine tr ?_;intros
 refine fi I F ?_ ?_<;>intro I _ F;refine bi I fun aR I aw=>?_;refine tr ?_;intros;refine cS (zd3 aw) ?_;refine fi I F ?_ ?_<;>intro I _ F;refine bi I fun aS I ax=>?_;refine tr ?_;intros;refine cS (zd3 ax) ?_;refine fi I F ?_ ?_<;>intro I _ F;refine bi I fun aT I ay=>?_;refine tr ?_;intros;refine cS (U _ _ _ _ ay) ?_;refine fi I F ?_ ?_<;>intro I _ F;refine bi I fun aU I az=>?_;refine tr ?_
 intros;refine cS (U _ _ _ _ az) ?_;cases I;refine tt ?_;refine wn ad F fun F=>?_;exact bk aj ae ();cases I;refine tt ?_;refine wn ad F fun F=>?_;exact bk aj ae ();cases I;refine tt ?_;refine wn ad F fun F=>?_;exact bk aj ae ();cases I;refine tt ?_;refine wn ad F fun F=>?_;exact bk aj ae ();cases I;refine tt ?_;refine wn ad F fun F=>?_;exact bk aj ae ();cases I;refine tt ?_;exact xt ae aq ()
 cases I;refine tt ?_;exact xt ae aq ()
theorem zs4 (n:Nat):(∀(I:List xtp) (U:Int) (x2:Int) (r:Int),(zbu n) I U x2=some r->Pu prog 37 [.one (.sl (I.map xts)),.one (.int .i64 U),.one (.int .i64 x2)] (.one (.int .i64 r))):=by
 induction n with
 |zero=>exact fun _ _ _ r h=>(by cases h)
 |succ n ih=>
  have aa:=ih
  exact fun _ _ _ r h=>zs5 aa h
theorem zvc {l:List xtp} {deep:Int} {left:Int} {r:Int} (h:zmz l deep left=some r):Pu prog 37 [.one (.sl (l.map xts)),.one (.int .i64 deep),.one (.int .i64 left)] (.one (.int .i64 r)):=(zs4 1000000) _ _ _ _ h
theorem zn9 {p:xtm} {r:Int} (h:zeg p=some r):
  Pu prog 13 [.agg (xtr p)] (.one (.int .i64 r)):=by
 have F:=trivial;have R:=trivial
 refine pA func13 ?_;simp only[f13];unfold zeg at h;refine tr ?_;intros;refine fi h F ?_ ?_<;>intro h _ F;cases h;exact fin;refine tr ?_;intros;refine fi h F ?_ ?_<;>intro h _ F;cases h;exact fin;refine bi h fun ae h ab=>?_;refine tt ?_
 refine lX ab (fun|U,_=>⟨[(1,.one (.ref 0 0 0 0)),(4,.one (.int .i64 (U:Int)))],[.cells 0 6 [(eP_ p)]]⟩) (fun|(.inl aj),_=>⟨[],[]⟩|(.inr ()),_=>⟨[],[.cells 0 6 [(eP_ p)]]⟩) (fun|(.inl _)=>none|(.inr _)=>some 0) ?_ ?_
 intro i3 b3 aa
 rcases ae with af|⟨⟩
 cases aa;obtain rfl:=Wab aa;obtain⟨⟩:=b3;dsimp only at h|-;cases h;exact fin;intro af3 m3 U a3 o3 I ho3 ih3;obtain⟨⟩:=a3;dsimp only[zc3]at I|-;refine tr ?_;intros;refine fl I F ?_ ?_<;>intro I _ F;refine bx I F fun ak I ai F=>?_;refine tr ?_;intros;refine fi I F ?_ ?_<;>intro I _ F;cases I;obtain rfl:=sr ho3
 try dsimp only at h
 cases h;exact fin;refine bi I fun al I ad=>?_;refine tr ?_;intros;refine cS (zvc ad) ?_;refine fi I F ?_ ?_<;>intro I _ F;cases I;obtain rfl:=sr ho3
 try dsimp only at h
 cases h;exact fin;cases I;refine tt ?_;refine wn U F fun F=>?_;exact bk ih3 ho3 ();cases I;refine tt ?_;exact xt ho3 af3 ()
theorem zmb {c:Int} {r:Bool} (h:zdz c=some r):
  Pu prog 198 [.one (.int .u8 c)] (.one (.bool r)):=by
 have F:=trivial;have R:=trivial
 refine pA func198 ?_;simp only[f198];unfold zdz at h;refine fi h F ?_ ?_<;>intro h _ F;refine tt ?_;refine fi h F ?_ ?_<;>intro h _ F;cases h;exact fin;refine fi h F ?_ ?_<;>intro h _ F;refine tt ?_;refine fi h F ?_ ?_<;>intro h _ F;cases h;exact fin;cases h;exact fin;cases h;exact fin;refine tt ?_;refine fi h F ?_ ?_<;>intro h _ F;refine fi h F ?_ ?_<;>intro h _ F;cases h;exact fin
 cases h;exact fin;cases h;exact fin
theorem zsy {c:Int} {r:Bool} (h:zgj c=some r):
  Pu prog 199 [.one (.int .u8 c)] (.one (.bool r)):=by
 have F:=trivial;have R:=trivial
 refine pA func199 ?_;simp only[f199];unfold zgj at h;refine fi h F ?_ ?_<;>intro h _ F;cases h;exact fin;cases h;exact fin
theorem zva {s:Str} {r:Int} (h:ziy s=some r):
  Pu prog 185 [.one (.str s)] (.one (.int .i64 r)):=by
 have F:=trivial;have R:=trivial
 refine pA func185 ?_;simp only[f185];unfold ziy at h;refine fi h F ?_ ?_<;>intro h _ F;cases h;exact fin;refine bx h F fun aq h an F=>?_;refine bi h fun ar h af=>?_;refine tr ?_;intros;refine cS (zmb af) ?_;refine fv h F ?_ ?_<;>intro h _ F;refine bi h fun ab h ai=>?_;refine tt ?_
 refine lX ai (fun|U,_=>⟨[(0,.one (.str s)),(3,.one (.int .i64 (U:Int)))],[]⟩) (fun|ab,_=>⟨[(3,.one (.int .i64 (ab:Int)))],[]⟩) (fun _=>some 0) ?_ ?_
 intro i5 b5 al;obtain rfl:=Wab al;obtain⟨⟩:=b5;dsimp only at h|-;cases h;exact fin;intro ad m5 U a5 o5 I aa ae;obtain⟨⟩:=a5;dsimp only[zk2]at I|-;refine tr ?_;intros;refine fl I F ?_ ?_<;>intro I _ F;refine bx I F fun au I ao F=>?_;refine bi I fun av I aj=>?_;refine tr ?_;intros;refine cS (zmb aj) ?_;refine fv I F ?_ ?_<;>intro I _ F;cases I;refine tt ?_;refine wn U F fun F=>?_
 exact bk ae aa ();refine bi I fun aw I ak=>?_;refine tr ?_;intros;refine cS (zsy ak) ?_;refine fv I F ?_ ?_<;>intro I _ F;cases I;refine tt ?_;refine wn U F fun F=>?_;exact bk ae aa ();cases I;refine tt ?_;exact xt aa ad ();cases I;refine tt ?_;exact xt aa ad ();cases h;exact fin
theorem zmx {s:Str} {names:Str} {r:Bool} (h:zej s names=some r):
  Pu prog 159 [.one (.str s),.one (.str names)] (.one (.bool r)):=by
 have F:=trivial;have R:=trivial
 refine pA func159 ?_;simp only[f159];unfold zej at h;refine bi h fun ai h af=>?_;refine tt ?_
 refine lX af (fun|(ab,aa),_=>⟨[(0,.one (.str s)),(1,.one (.str names)),(5,.one (.int .i64 ab)),(6,.one (.int .i64 (aa:Int)))],[]⟩) (fun|(.inl an),_=>⟨[],[]⟩|(.inr ()),_=>⟨[],[]⟩) (fun|(.inl _)=>none|(.inr _)=>some 0) ?_ ?_
 intro i4 b4 ae
 rcases ai with aj|⟨⟩
 cases ae;obtain rfl:=Wab ae;obtain⟨⟩:=b4;dsimp only at h|-;cases h;exact fin;intro ak m4 s4 a4 o4 I U ad;obtain⟨ab,aa⟩:=s4;obtain⟨⟩:=a4;dsimp only[zjz]at I|-;refine tr ?_;intros;refine fm I F ?_ ?_<;>intro I _ F;refine tr ?_;intros;refine fi I F ?_ ?_<;>intro I _ F;refine fi I F ?_ ?_<;>intro I _ F;refine nd I F fun I F=>?_;refine tr ?_;intros;refine fi I F ?_ ?_<;>intro I _ F
 cases I;obtain rfl:=sr U
 try dsimp only at h
 cases h;exact fin;cases I;refine tt ?_;refine wn aa F fun F=>?_;exact bk ad U ();cases I;refine tt ?_;refine wn aa F fun F=>?_;exact bk ad U ();refine bx I F fun ao I al F=>?_;refine tr ?_;intros;refine fi I F ?_ ?_<;>intro I _ F;refine fi I F ?_ ?_<;>intro I _ F;refine nd I F fun I F=>?_;refine tr ?_;intros;refine fi I F ?_ ?_<;>intro I _ F;cases I;obtain rfl:=sr U
 try dsimp only at h
 cases h;exact fin;cases I;refine tt ?_;refine wn aa F fun F=>?_;exact bk ad U ();cases I;refine tt ?_;refine wn aa F fun F=>?_;exact bk ad U ();cases I;refine tt ?_;refine wn aa F fun F=>?_;exact bk ad U ();cases I;refine tt ?_;exact xt U ak ()
theorem zud {s:Str} {r:Bool} (h:zhw s=some r):
  Pu prog 186 [.one (.str s)] (.one (.bool r)):=by
 have F:=trivial;have R:=trivial
 refine pA func186 ?_;simp only[f186];unfold zhw at h;refine bi h fun U h I=>?_;refine tr ?_;intros;refine cS (zmx I) ?_;cases h;exact fin
theorem zsx {s:Str} {r:Str} (h:zgi s=some r):
  Pu prog 187 [.one (.str s)] (.one (.str r)):=by
 have F:=trivial;have R:=trivial
 refine pA func187 ?_;simp only[f187];unfold zgi at h;refine bi h fun ad h ai=>?_;refine tt ?_
 refine lX ai (fun|(aa,U),_=>⟨[(3,.one (.msl 0 0 0 aa.length)),(4,.one (.int .i64 (U:Int)))],[.cells 0 1 (aa.map (eK .u8))]⟩) (fun|ad,_=>⟨[(3,.one (.msl 0 0 0 ad.length))],[.cells 0 1 (ad.map (eK .u8))]⟩) (fun _=>some 0) ?_ ?_
 intro i4 b4 aj;obtain rfl:=Wab aj;obtain⟨⟩:=b4;dsimp only at h|-;cases h;exact fin;intro ak m4 s4 a4 o4 I ab ae;obtain⟨aa,U⟩:=s4;obtain⟨⟩:=a4;dsimp only[zjy]at I|-;refine tr ?_;intros;refine fl I F ?_ ?_<;>intro I _ F;refine bx I F fun af I al F=>?_;refine tr ?_;intros;refine fi I F ?_ ?_<;>intro I _ F;refine tr ?_;intros;refine fi I F ?_ ?_<;>intro I _ F
 have R:=And.intro (show(List.map (eK .u8) aa).set U [.int .u8 (IntKind.u8.wrap (af-32))]=List.map (eK .u8) (aa.set U (IntKind.u8.wrap (af-32))) by simp[go_sem,WaL]) R
 cases I;refine tr ?_;intros;refine wn U F fun F=>?_;exact bk ae ab ();cases I;refine tt ?_;refine wn U F fun F=>?_;exact bk ae ab ();cases I;refine tt ?_;refine wn U F fun F=>?_;exact bk ae ab ();cases I;refine tt ?_;exact xt ab ak ()
theorem za6 {s:Str} {r:Bool} (h:zaw s=some r):
  Pu prog 155 [.one (.str s)] (.one (.bool r)):=by
 have F:=trivial;have R:=trivial
 refine pA func155 ?_;simp only[f155];unfold zaw at h;refine fi h F ?_ ?_<;>intro h _ F;cases h;exact fin;refine tr ?_;intros;refine fi h F ?_ ?_<;>intro h _ F;refine bi h fun ab h I=>?_;refine tr ?_;intros;refine cS (zva I) ?_;refine tr ?_;intros;refine fi h F ?_ ?_<;>intro h _ F;refine bi h fun ad h U=>?_;refine tr ?_;intros;refine cS (zsx U) ?_;refine bi h fun ae h aa=>?_;refine tr ?_
 intros;refine cS (zud aa) ?_;cases h;exact fin;cases h;exact fin;cases h;exact fin
theorem zt3 {l:List Str} {name:Str} {r:Int} (h:zhq l name=some r):
  Pu prog 156 [.one (.sl (l.map eS)),.one (.str name)] (.one (.int .i64 r)):=by
 have F:=trivial;have R:=trivial
 refine pA func156 ?_;simp only[f156];unfold zhq at h;refine bi h fun ad h ab=>?_;refine tt ?_
 refine lX ab (fun|U,_=>⟨[(0,.one (.sl (l.map eS))),(1,.one (.str name)),(5,.one (.int .i64 (U:Int)))],[]⟩) (fun|(.inl ai),_=>⟨[],[]⟩|(.inr ()),_=>⟨[],[]⟩) (fun|(.inl _)=>none|(.inr _)=>some 0) ?_ ?_
 intro i3 b3 aa
 rcases ad with ae|⟨⟩
 cases aa;obtain rfl:=Wab aa;obtain⟨⟩:=b3;dsimp only at h|-;cases h;exact fin;intro af3 m3 U a3 o3 I ho3 ih3;obtain⟨⟩:=a3;dsimp only[zkf]at I|-;refine tr ?_;intros;refine fl I F ?_ ?_<;>intro I _ F;refine bx I F fun aj I af F=>?_;refine tr ?_;intros;refine fi I F ?_ ?_<;>intro I _ F;cases I;obtain rfl:=sr ho3
 try dsimp only at h
 cases h;exact fin;cases I;refine tt ?_;refine wn U F fun F=>?_;exact bk ih3 ho3 ();cases I;refine tt ?_;exact xt ho3 af3 ()
theorem zbt {l:xtq} {a:Int} {r:Bool} (h:zbb l a=some r):
  Pu prog 52 [.agg (xt5 l),.one (.int .i64 a)] (.one (.bool r)):=by
 have F:=trivial;have R:=trivial
 refine pA func52 ?_;simp only[f52];unfold zbb at h;refine fi h F ?_ ?_<;>intro h _ F;cases h;exact fin;cases h;exact fin
theorem zby {p:xtm} {n:Int} {r:Bool} (h:zbc p n=some r):
  Pu prog 157 [.agg (xtr p),.one (.int .i64 n)] (.one (.bool r)):=by
 have F:=trivial;have R:=trivial
 refine pA func157 ?_;simp only[f157];unfold zbc at h;refine bi h fun U h I=>?_;refine tr ?_;intros;refine cS (zbt I) ?_;cases h;exact fin
theorem zii {kind:Int} {r:Int} (h:zba kind=some r):
  Pu prog 42 [.one (.int .i64 kind)] (.one (.int .i64 r)):=by
 have F:=trivial;have R:=trivial
 refine pA func42 ?_;simp only[f42];unfold zba at h;refine fi h F ?_ ?_<;>intro h _ F;cases h;exact fin;refine fi h F ?_ ?_<;>intro h _ F;cases h;exact fin;refine tt ?_;refine fi h F ?_ ?_<;>intro h _ F;cases h;exact fin;refine fi h F ?_ ?_<;>intro h _ F;cases h;exact fin;cases h;exact fin
theorem zkl {kind:Int} {r:Int} (h:zbm kind=some r):
  Pu prog 43 [.one (.int .i64 kind)] (.one (.int .i64 r)):=by
 have F:=trivial;have R:=trivial
 refine pA func43 ?_;simp only[f43];unfold zbm at h;refine fi h F ?_ ?_<;>intro h _ F;cases h;exact fin;cases h;exact fin
theorem zha {kind:Int} {n:Int} {r:Bool} (h:zbs kind n=some r):
  Pu prog 17 [.one (.int .i64 kind),.one (.int .i64 n)] (.one (.bool r)):=by
 have F:=trivial;have R:=trivial
 refine pA func17 ?_;simp only[f17];unfold zbs at h;refine fi h F ?_ ?_<;>intro h _ F;refine fi h F ?_ ?_<;>intro h _ F;cases h;exact fin;cases h;exact fin;refine bi h fun ab h I=>?_;refine tr ?_;intros;refine cS (zii I) ?_;refine fi h F ?_ ?_<;>intro h _ F;refine bi h fun ad h U=>?_;refine tr ?_;intros;refine cS (zkl U) ?_;refine fi h F ?_ ?_<;>intro h _ F;refine bi h fun ae h aa=>?_
 refine tr ?_;intros;refine cS (zkl aa) ?_;cases h;exact fin;cases h;exact fin;cases h;exact fin
theorem zg9 {t:xt3} {r:Int} (h:zbr t=some r):
  Pu prog 53 [.agg (xt7 t)] (.one (.int .i64 r)):=by
 have F:=trivial;have R:=trivial
 refine pA func53 ?_;simp only[f53];unfold zbr at h;refine bi h fun U h I=>?_;refine tr ?_;intros;refine cS (zii I) ?_;refine fi h F ?_ ?_<;>intro h _ F;cases h;exact fin;refine tt ?_;refine fi h F ?_ ?_<;>intro h _ F;cases h;exact fin;refine fi h F ?_ ?_<;>intro h _ F;cases h;exact fin;refine tt ?_;refine fi h F ?_ ?_<;>intro h _ F;refine fi h F ?_ ?_<;>intro h _ F;refine tt ?_;refine fi h F ?_ ?_<;>intro h _ F
 cases h;exact fin;refine fi h F ?_ ?_<;>intro h _ F;cases h;exact fin;cases h;exact fin;cases h;exact fin;refine tt ?_;refine fi h F ?_ ?_<;>intro h _ F;cases h;exact fin;refine fi h F ?_ ?_<;>intro h _ F;cases h;exact fin;cases h;exact fin
theorem zpw {p:xtm} {v:xtv} {r:Bool} (h:zea p v=some r):
  Pu prog 158 [.agg (xtr p),.agg (xtx v)] (.one (.bool r)):=by
 have F:=trivial;have R:=trivial
 refine pA func158 ?_;simp only[f158];unfold zea at h;refine bi h fun af h I=>?_;refine tr ?_;intros;refine cS (za6 I) ?_;refine fv h F ?_ ?_<;>intro h _ F;refine bi h fun ai h U=>?_;refine tr ?_;intros;refine cS (zg9 U) ?_;refine fi h F ?_ ?_<;>intro h _ F;refine fi h F ?_ ?_<;>intro h _ F;refine tt ?_;refine fi h F ?_ ?_<;>intro h _ F;refine fi h F ?_ ?_<;>intro h _ F;refine tt ?_
 refine fi h F ?_ ?_<;>intro h _ F;cases h;exact fin;cases h;exact fin;refine bi h fun aj h aa=>?_;refine tr ?_;intros;refine cS (zby aa) ?_;refine fv h F ?_ ?_<;>intro h _ F;refine tt ?_;refine fi h F ?_ ?_<;>intro h _ F;cases h;exact fin;cases h;exact fin;cases h;exact fin;cases h;exact fin;refine tt ?_;refine fi h F ?_ ?_<;>intro h _ F;refine fi h F ?_ ?_<;>intro h _ F;refine bi h fun ak h ab=>?_
 refine tr ?_;intros;refine cS (zby ab) ?_;refine fv h F ?_ ?_<;>intro h _ F;cases h;exact fin;cases h;exact fin;cases h;exact fin;refine fi h F ?_ ?_<;>intro h _ F;refine bi h fun al h ad=>?_;refine tr ?_;intros;refine cS (zby ad) ?_;refine fv h F ?_ ?_<;>intro h _ F;refine tt ?_;refine fi h F ?_ ?_<;>intro h _ F;refine bi h fun an h ae=>?_;refine tr ?_;intros;refine cS (zha ae) ?_
 cases h;exact fin;cases h;exact fin;cases h;exact fin;cases h;exact fin;cases h;exact fin;cases h;exact fin
theorem zss {p:xtm} {r:Bool} (h:zgf p=some r):
  Pu prog 119 [.agg (xtr p)] (.one (.bool r)):=by
 have F:=trivial;have R:=trivial
 refine pA func119 ?_;simp only[f119];unfold zgf at h;refine tr ?_;intros;refine fi h F ?_ ?_<;>intro h _ F;cases h;exact fin;refine tr ?_;intros;refine fi h F ?_ ?_<;>intro h _ F;cases h;exact fin;refine tr ?_;intros;refine fi h F ?_ ?_<;>intro h _ F;cases h;exact fin;refine tr ?_;intros;refine fi h F ?_ ?_<;>intro h _ F;cases h;exact fin;refine tr ?_;intros;refine fi h F ?_ ?_<;>intro h _ F
 cases h;exact fin;refine tr ?_;intros;refine fi h F ?_ ?_<;>intro h _ F;cases h;exact fin;refine bi h fun a4 h aL=>?_;refine tt ?_
 refine lX aL (fun|aq,_=>⟨[(1,.one (.ref 0 0 0 0)),(3,.one (.int .i64 (aq:Int)))],[.cells 0 6 [(eP_ p)]]⟩) (fun|(.inl bH),_=>⟨[],[]⟩|(.inr ()),_=>⟨[(1,.one (.ref 0 0 0 0))],[.cells 0 6 [(eP_ p)]]⟩) (fun|(.inl _)=>none|(.inr _)=>some 0) ?_ ?_
 intro i3 b3 aK
 rcases a4 with ae|⟨⟩
 cases aK;obtain rfl:=Wab aK;obtain⟨⟩:=b3;dsimp only at h|-;refine bi h fun a5 h aM=>?_;refine tt ?_
 refine lX aM (fun|ar,_=>⟨[(1,.one (.ref 0 0 0 0)),(4,.one (.int .i64 (ar:Int)))],[.cells 0 6 [(eP_ p)]]⟩) (fun|(.inl bm),_=>⟨[],[]⟩|(.inr ()),_=>⟨[(1,.one (.ref 0 0 0 0))],[.cells 0 6 [(eP_ p)]]⟩) (fun|(.inl _)=>none|(.inr _)=>some 2) ?_ ?_
 intro i10 a6 au
 rcases a5 with ae|⟨⟩
 cases au;obtain rfl:=Wab au;obtain⟨⟩:=a6;dsimp only at h|-;refine bi h fun aN h ay=>?_;refine tt ?_
 refine lX ay (fun|ak,_=>⟨[(1,.one (.ref 0 0 0 0)),(5,.one (.int .i64 (ak:Int)))],[.cells 0 6 [(eP_ p)]]⟩) (fun|(.inl bn),_=>⟨[],[]⟩|(.inr ()),_=>⟨[(1,.one (.ref 0 0 0 0))],[.cells 0 6 [(eP_ p)]]⟩) (fun|(.inl _)=>none|(.inr _)=>some 4) ?_ ?_
 intro i17 a7 av
 rcases aN with ae|⟨⟩
 cases av;obtain rfl:=Wab av;obtain⟨⟩:=a7;dsimp only at h|-;refine bi h fun aO h az=>?_;refine tt ?_
 refine lX az (fun|al,_=>⟨[(1,.one (.ref 0 0 0 0)),(6,.one (.int .i64 (al:Int)))],[.cells 0 6 [(eP_ p)]]⟩) (fun|(.inl bo),_=>⟨[],[]⟩|(.inr ()),_=>⟨[(1,.one (.ref 0 0 0 0))],[.cells 0 6 [(eP_ p)]]⟩) (fun|(.inl _)=>none|(.inr _)=>some 6) ?_ ?_
 intro i25 a8 aw
 rcases aO with ae|⟨⟩
 cases aw;obtain rfl:=Wab aw;obtain⟨⟩:=a8;dsimp only at h|-;refine bi h fun aP h aA=>?_;refine tt ?_
 refine lX aA (fun|an,_=>⟨[(1,.one (.ref 0 0 0 0)),(7,.one (.int .i64 (an:Int)))],[.cells 0 6 [(eP_ p)]]⟩) (fun|(.inl bp),_=>⟨[],[]⟩|(.inr ()),_=>⟨[],[.cells 0 6 [(eP_ p)]]⟩) (fun|(.inl _)=>none|(.inr _)=>some 8) ?_ ?_
 intro i31 a9 ax
 rcases aP with ae|⟨⟩
 cases ax;obtain rfl:=Wab ax;obtain⟨⟩:=a9;dsimp only at h|-;cases h;exact fin;intro aQ bI an ba bJ I af aR;obtain⟨⟩:=ba;dsimp only[zg4]at I|-;refine tr ?_;intros;refine fl I F ?_ ?_<;>intro I _ F;refine bx I F fun bq I bg F=>?_;refine bi I fun br I aB=>?_;refine tr ?_;intros;refine cS (za6 aB) ?_;refine fv I F ?_ ?_<;>intro I _ F;refine bi I fun bs I aC=>?_;refine tr ?_;intros
 refine cS (zmx aC) ?_;refine fv I F ?_ ?_<;>intro I _ F;refine bi I fun bt I aD=>?_;refine tr ?_;intros;refine cS (zby aD) ?_;refine fv I F ?_ ?_<;>intro I _ F;cases I;refine tt ?_;refine wn an F fun F=>?_;exact bk aR af ();cases I;obtain rfl:=sr af
 try dsimp only at h
 cases h;exact fin;cases I;obtain rfl:=sr af
 try dsimp only at h
 cases h;exact fin;cases I;obtain rfl:=sr af
 try dsimp only at h
 cases h;exact fin;cases I;refine tt ?_;exact xt af aQ ();intro aS bK al bb bL ad ao aT;obtain⟨⟩:=bb;dsimp only[zg5]at ad|-;refine tr ?_;intros;refine fl ad F ?_ ?_<;>intro ad _ F;refine bx ad F fun bu ad bh F=>?_;refine bi ad fun bw ad aE=>?_;refine tr ?_;intros;refine cD (zpw aE) ?_;refine tr ?_;intros;refine fv ad F ?_ ?_<;>intro ad _ F;cases ad;refine tt ?_;refine wn al F fun F=>?_
 exact bk aT ao ();cases ad;obtain rfl:=sr ao
 try dsimp only at h
 cases h;exact fin;cases ad;refine tt ?_;exact xt ao aS ();intro aU bM ak bc bN U ai aV;obtain⟨⟩:=bc;dsimp only[zg6]at U|-;refine tr ?_;intros;refine fl U F ?_ ?_<;>intro U _ F;refine bx U F fun bz U bj F=>?_;refine bi U fun bA U aF=>?_;refine tr ?_;intros;refine cD (za6 aF) ?_;refine tr ?_;intros;refine fv U F ?_ ?_<;>intro U _ F;refine bi U fun bB U aG=>?_;refine tr ?_;intros;refine cD (zby aG) ?_
 refine tr ?_;intros;refine fv U F ?_ ?_<;>intro U _ F;refine bi U fun bC U aH=>?_;refine tr ?_;intros;refine cD (zby aH) ?_;refine tr ?_;intros;refine fv U F ?_ ?_<;>intro U _ F;cases U;refine tt ?_;refine wn ak F fun F=>?_;exact bk aV ai ();cases U;obtain rfl:=sr ai
 try dsimp only at h
 cases h;exact fin;cases U;obtain rfl:=sr ai
 try dsimp only at h
 cases h;exact fin;cases U;obtain rfl:=sr ai
 try dsimp only at h
 cases h;exact fin;cases U;refine tt ?_;exact xt ai aU ();intro aW bO ar bf bP aa aj aX;obtain⟨⟩:=bf;dsimp only[zg7]at aa|-;refine tr ?_;intros;refine fl aa F ?_ ?_<;>intro aa _ F;refine bx aa F fun bD aa bl F=>?_;refine bi aa fun bE aa aI=>?_;refine tr ?_;intros;refine cD (zby aI) ?_;refine tr ?_;intros;refine fv aa F ?_ ?_<;>intro aa _ F;refine bi aa fun bF aa aJ=>?_;refine tr ?_
 intros;refine cD (zby aJ) ?_;refine tr ?_;intros;refine fv aa F ?_ ?_<;>intro aa _ F;cases aa;refine tt ?_;refine wn ar F fun F=>?_;exact bk aX aj ();cases aa;obtain rfl:=sr aj
 try dsimp only at h
 cases h;exact fin;cases aa;obtain rfl:=sr aj
 try dsimp only at h
 cases h;exact fin;cases aa;refine tt ?_;exact xt aj aW ();intro af3 m3 aq a3 o3 ab ho3 ih3;obtain⟨⟩:=a3;dsimp only[zg8]at ab|-;refine tr ?_;intros;refine fl ab F ?_ ?_<;>intro ab _ F;refine bx ab F fun bQ ab bG F=>?_;refine bi ab fun bR ab aY=>?_;refine tr ?_;intros;refine cD (za6 aY) ?_;refine tr ?_;intros;refine fv ab F ?_ ?_<;>intro ab _ F;refine bi ab fun bS ab aZ=>?_;refine tr ?_
 intros;refine cD (zt3 aZ) ?_;refine tr ?_;intros;refine fi ab F ?_ ?_<;>intro ab _ F;cases ab;refine tt ?_;refine wn aq F fun F=>?_;exact bk ih3 ho3 ();cases ab;obtain rfl:=sr ho3
 try dsimp only at h
 cases h;exact fin;cases ab;obtain rfl:=sr ho3
 try dsimp only at h
 cases h;exact fin;cases ab;refine tt ?_;exact xt ho3 af3 ()
theorem zub {e:xtn} {r:Bool} (h:zcz e=some r):
  Pu prog 215 [.agg (xto e)] (.one (.bool r)):=by
 have F:=trivial;have R:=trivial
 refine pA func215 ?_;simp only[f215];unfold zcz at h;refine tr ?_;intros;refine fi h F ?_ ?_<;>intro h _ F;refine fi h F ?_ ?_<;>intro h _ F;refine tt ?_;refine fi h F ?_ ?_<;>intro h _ F;refine fi h F ?_ ?_<;>intro h _ F;refine tt ?_;refine fi h F ?_ ?_<;>intro h _ F;cases h;exact fin;cases h;exact fin;refine tt ?_;refine fi h F ?_ ?_<;>intro h _ F;exact(by omega:False).elim;refine tt ?_
 refine fi h F ?_ ?_<;>intro h _ F;exact(by omega:False).elim;refine fi h F ?_ ?_<;>intro h _ F;exact(by omega:False).elim;cases h;exact fin;refine fi h F ?_ ?_<;>intro h _ F;refine tt ?_;refine fi h F ?_ ?_<;>intro h _ F;refine tt ?_;refine fi h F ?_ ?_<;>intro h _ F;cases h;exact fin;cases h;exact fin;refine fi h F ?_ ?_<;>intro h _ F;exact(by omega:False).elim;refine tt ?_
 refine fi h F ?_ ?_<;>intro h _ F;exact(by omega:False).elim;cases h;exact fin;refine tt ?_;refine fi h F ?_ ?_<;>intro h _ F;refine tt ?_;refine fi h F ?_ ?_<;>intro h _ F;refine fi h F ?_ ?_<;>intro h _ F;cases h;exact fin;cases h;exact fin;cases h;exact fin;refine fi h F ?_ ?_<;>intro h _ F;refine tt ?_;refine fi h F ?_ ?_<;>intro h _ F;refine fi h F ?_ ?_<;>intro h _ F;cases h;exact fin
 cases h;exact fin;cases h;exact fin;cases h;exact fin;cases h;exact fin;refine fi h F ?_ ?_<;>intro h _ F;refine tt ?_;refine fi h F ?_ ?_<;>intro h _ F;refine fi h F ?_ ?_<;>intro h _ F;refine tt ?_;refine fi h F ?_ ?_<;>intro h _ F;refine bi h fun ad h I=>?_;refine tr ?_;intros;refine cS (za6 I) ?_;cases h;exact fin;cases h;exact fin;cases h;exact fin;refine fi h F ?_ ?_<;>intro h _ F
 refine tt ?_;refine fi h F ?_ ?_<;>intro h _ F;refine fi h F ?_ ?_<;>intro h _ F;refine tt ?_;refine fi h F ?_ ?_<;>intro h _ F;refine bi h fun ae h U=>?_;refine tr ?_;intros;refine cS (za6 U) ?_;cases h;exact fin;cases h;exact fin;cases h;exact fin;cases h;exact fin;refine tt ?_;refine fi h F ?_ ?_<;>intro h _ F;refine fi h F ?_ ?_<;>intro h _ F;refine tt ?_;refine fi h F ?_ ?_<;>intro h _ F
 refine bi h fun af h aa=>?_;refine tr ?_;intros;refine cS (za6 aa) ?_;cases h;exact fin;cases h;exact fin;cases h;exact fin;refine fi h F ?_ ?_<;>intro h _ F;refine tt ?_;refine fi h F ?_ ?_<;>intro h _ F;refine fi h F ?_ ?_<;>intro h _ F;refine bi h fun ai h ab=>?_;refine tr ?_;intros;refine cS (za6 ab) ?_;cases h;exact fin;cases h;exact fin;cases h;exact fin;refine tt ?_;refine fi h F ?_ ?_<;>intro h _ F
 refine fi h F ?_ ?_<;>intro h _ F;refine tt ?_;refine fi h F ?_ ?_<;>intro h _ F;cases h;exact fin;cases h;exact fin;cases h;exact fin;refine fi h F ?_ ?_<;>intro h _ F;refine tt ?_;refine fi h F ?_ ?_<;>intro h _ F;refine fi h F ?_ ?_<;>intro h _ F;cases h;exact fin;cases h;exact fin;cases h;exact fin;refine tt ?_;refine fi h F ?_ ?_<;>intro h _ F;refine fi h F ?_ ?_<;>intro h _ F
 refine tt ?_;refine fi h F ?_ ?_<;>intro h _ F;refine fi h F ?_ ?_<;>intro h _ F;cases h;exact fin;cases h;exact fin;cases h;exact fin;cases h;exact fin;cases h;exact fin;cases h;exact fin
theorem zqq {I:xtn->Int->Int->Option Int} {e:xtn} {deep:Int} {left:Int} {r:Int}
  (U:∀(x0:xtn) (x1:Int) (x2:Int) (r:Int),I x0 x1 x2=some r->Pu prog 213 [.agg (xto x0),.one (.int .i64 x1),.one (.int .i64 x2)] (.one (.int .i64 r))) (h:zey I e deep left=some r):
  Pu prog 213 [.agg (xto e),.one (.int .i64 deep),.one (.int .i64 left)] (.one (.int .i64 r)):=by
 have F:=trivial;have R:=trivial
 refine pA func213 ?_;simp only[f213];unfold zey at h;refine fi h F ?_ ?_<;>intro h _ F;cases h;exact fin;refine tt ?_;refine fi h F ?_ ?_<;>intro h _ F;cases h;exact fin;refine bi h fun ar h aj=>?_;refine tr ?_;intros;refine cS (zub aj) ?_;refine fv h F ?_ ?_<;>intro h _ F;refine bi h fun af h ak=>?_;refine tt ?_
 refine lX ak (fun|(ab,ad),_=>⟨[(1,.one (.int .i64 deep)),(2,.one (.int .i64 ab)),(3,.one (.ref 0 0 0 0)),(7,.one (.int .i64 (ad:Int)))],[.cells 0 5 [[.int .i64 e.Op,.int .i64 e.N,.int .i64 e.Kind,.str e.Name,.sl (e.Args.map xto)]]]⟩) (fun|af,_=>⟨[(2,.one (.int .i64 af))],[.cells 0 5 [[.int .i64 e.Op,.int .i64 e.N,.int .i64 e.Kind,.str e.Name,.sl (e.Args.map xto)]]]⟩) (fun _=>some 0) ?_ ?_
 intro i5 b5 an;obtain rfl:=Wab an;obtain⟨⟩:=b5;dsimp only at h|-;cases h;exact fin;intro ai m5 s5 a5 o5 aa ae ao;obtain⟨ab,ad⟩:=s5;obtain⟨⟩:=a5;dsimp only[zjx]at aa|-;refine tr ?_;intros;refine fl aa F ?_ ?_<;>intro aa _ F;refine fi aa F ?_ ?_<;>intro aa _ F;refine bx aa F fun au aa aq F=>?_;refine bi aa fun av aa al=>?_;refine tr ?_;intros;refine cS (U _ _ _ _ al) ?_;cases aa
 refine tt ?_;refine wn ad F fun F=>?_;exact bk ao ae ();cases aa;refine tt ?_;exact xt ae ai ();cases aa;refine tt ?_;exact xt ae ai ();cases h;exact fin
theorem zqp (n:Nat):(∀(I:xtn) (U:Int) (x2:Int) (r:Int),(zdm n) I U x2=some r->Pu prog 213 [.agg (xto I),.one (.int .i64 U),.one (.int .i64 x2)] (.one (.int .i64 r))):=by
 induction n with
 |zero=>exact fun _ _ _ r h=>(by cases h)
 |succ n ih=>
  have aa:=ih
  exact fun _ _ _ r h=>zqq aa h
theorem zsw {e:xtn} {deep:Int} {left:Int} {r:Int} (h:zll e deep left=some r):Pu prog 213 [.agg (xto e),.one (.int .i64 deep),.one (.int .i64 left)] (.one (.int .i64 r)):=(zqp 1000000) _ _ _ _ h
theorem za9 {n:Int} {r:Str} (h:zax n=some r):
  Pu prog 191 [.one (.int .i64 n)] (.one (.str r)):=by
 have F:=trivial;have R:=trivial
 refine pA func191 ?_;simp only[f191];unfold zax at h;refine bi h fun ai h af=>?_;refine tt ?_
 refine lX af (fun|(U,aa),_=>⟨[(0,.one (.int .i64 U)),(3,.one (.str aa))],[]⟩) (fun|(ab,ad),_=>⟨[(0,.one (.int .i64 ab)),(3,.one (.str ad))],[]⟩) (fun _=>some 0) ?_ ?_
 intro i4 b4 aj;obtain rfl:=Wab aj;obtain⟨ab,ad⟩:=ai;obtain⟨⟩:=b4;dsimp only at h|-;refine nd h F fun h F=>?_;refine nd h F fun h F=>?_;cases h;exact fin;intro ak m4 s4 a4 o4 I ae al;obtain⟨U,aa⟩:=s4;obtain⟨⟩:=a4;dsimp only[zi7]at I|-;refine fi I F ?_ ?_<;>intro I _ F;refine nd I F fun I F=>?_;refine nd I F fun I F=>?_;cases I;refine tr ?_;intros;exact bk al ae ();cases I
 refine tt ?_;exact xt ae ak ()
theorem zjw {op:Int} {r:Int} (h:zdd op=some r):
  Pu prog 217 [.one (.int .i64 op)] (.one (.int .i64 r)):=by
 have F:=trivial;have R:=trivial
 refine pA func217 ?_;simp only[f217];unfold zdd at h;refine fi h F ?_ ?_<;>intro h _ F;cases h;exact fin;refine tt ?_;refine fi h F ?_ ?_<;>intro h _ F;cases h;exact fin;refine fi h F ?_ ?_<;>intro h _ F;cases h;exact fin;refine fi h F ?_ ?_<;>intro h _ F;refine tt ?_;refine fi h F ?_ ?_<;>intro h _ F;cases h;exact fin;refine fi h F ?_ ?_<;>intro h _ F;cases h;exact fin;refine tt ?_
 refine fi h F ?_ ?_<;>intro h _ F;cases h;exact fin;refine fi h F ?_ ?_<;>intro h _ F;refine tt ?_;refine fi h F ?_ ?_<;>intro h _ F;cases h;exact fin;refine fi h F ?_ ?_<;>intro h _ F;cases h;exact fin;refine tt ?_;refine fi h F ?_ ?_<;>intro h _ F;cases h;exact fin;cases h;exact fin;refine tt ?_;refine fi h F ?_ ?_<;>intro h _ F;cases h;exact fin;refine fi h F ?_ ?_<;>intro h _ F
 cases h;exact fin;cases h;exact fin;refine tt ?_;refine fi h F ?_ ?_<;>intro h _ F;cases h;exact fin;refine fi h F ?_ ?_<;>intro h _ F;cases h;exact fin;refine tt ?_;refine fi h F ?_ ?_<;>intro h _ F;refine fi h F ?_ ?_<;>intro h _ F;cases h;exact fin;refine tt ?_;refine fi h F ?_ ?_<;>intro h _ F;cases h;exact fin;refine fi h F ?_ ?_<;>intro h _ F;cases h;exact fin;cases h;exact fin
 refine fi h F ?_ ?_<;>intro h _ F;cases h;exact fin;refine tt ?_;refine fi h F ?_ ?_<;>intro h _ F;cases h;exact fin;cases h;exact fin
theorem zsv {level:Int} {r:Str×Int} (h:zgh level=some r):
  Pu prog 219 [.one (.int .i64 level)] (.tup [.one (.str r.1),.one (.int .i64 r.2)]):=by
 have F:=trivial;have R:=trivial
 refine pA func219 ?_;simp only[f219];unfold zgh at h;refine fi h F ?_ ?_<;>intro h _ F;cases h;exact fin;refine tt ?_;refine fi h F ?_ ?_<;>intro h _ F;cases h;exact fin;refine fi h F ?_ ?_<;>intro h _ F;cases h;exact fin;refine fi h F ?_ ?_<;>intro h _ F;cases h;exact fin;refine fi h F ?_ ?_<;>intro h _ F;cases h;exact fin;cases h;exact fin
theorem zua {op:Int} {r:Str} (h:zhv op=some r):
  Pu prog 218 [.one (.int .i64 op)] (.one (.str r)):=by
 have F:=trivial;have R:=trivial
 refine pA func218 ?_;simp only[f218];unfold zhv at h;refine bi h fun av h ai=>?_;refine tr ?_;intros;refine cS (zjw ai) ?_;refine bi h fun al h aj=>?_;refine tr ?_;intros;refine cS (zsv aj) ?_;refine bi h fun an h ak=>?_;refine tt ?_
 refine lX ak (fun|(ae,aa,ab),_=>⟨[(0,.one (.int .i64 op)),(3,.one (.str al.1)),(5,.one (.int .i64 ae)),(6,.one (.int .i64 aa)),(7,.one (.int .i64 (ab:Int)))],[]⟩) (fun|(.inl ar),_=>⟨[],[]⟩|(.inr ()),_=>⟨[],[]⟩) (fun|(.inl _)=>none|(.inr _)=>some 0) ?_ ?_
 intro i7 b7 af
 rcases an with ao|⟨⟩
 cases af;obtain rfl:=Wab af;obtain⟨⟩:=b7;dsimp only at h|-;cases h;exact fin;intro aq m7 s7 a7 o7 I U ad;obtain⟨ae,aa,ab⟩:=s7;obtain⟨⟩:=a7;dsimp only[zkk]at I|-;refine tr ?_;intros;refine fm I F ?_ ?_<;>intro I _ F;refine tr ?_;intros;refine fi I F ?_ ?_<;>intro I _ F;refine fi I F ?_ ?_<;>intro I _ F;refine nd I F fun I F=>?_;cases I;obtain rfl:=sr U
 try dsimp only at h
 cases h;exact fin;cases I;refine tt ?_;refine wn ab F fun F=>?_;exact bk ad U ();refine bx I F fun aw I au F=>?_;refine tr ?_;intros;refine fi I F ?_ ?_<;>intro I _ F;refine fi I F ?_ ?_<;>intro I _ F;refine nd I F fun I F=>?_;cases I;obtain rfl:=sr U
 try dsimp only at h
 cases h;exact fin;cases I;refine tt ?_;refine wn ab F fun F=>?_;exact bk ad U ();cases I;refine tt ?_;refine wn ab F fun F=>?_;exact bk ad U ();cases I;refine tt ?_;exact xt U aq ()
theorem zrk {aa:xtn->Option Str} {ab:xtn->Int->Option Str} {e:xtn} {r:Str}
  (U:∀(x0:xtn) (r:Str),aa x0=some r->Pu prog 214 [.agg (xto x0)] (.one (.str r)))
  (I:∀(x0:xtn) (x1:Int) (r:Str),ab x0 x1=some r->Pu prog 216 [.agg (xto x0),.one (.int .i64 x1)] (.one (.str r))) (h:zfo aa ab e=some r):
  Pu prog 214 [.agg (xto e)] (.one (.str r)):=by
 have F:=trivial;have R:=trivial
 refine pA func214 ?_;simp only[f214];unfold zfo at h;refine fi h F ?_ ?_<;>intro h _ F;refine tt ?_;refine fi h F ?_ ?_<;>intro h _ F;refine fi h F ?_ ?_<;>intro h _ F;cases h;exact fin;cases h;exact fin;refine fi h F ?_ ?_<;>intro h _ F;refine bi h fun aP h ao=>?_;refine tr ?_;intros;refine cS (za9 ao) ?_;refine nd h F fun h F=>?_;refine nd h F fun h F=>?_;cases h;exact fin;refine fi h F ?_ ?_<;>intro h _ F
 refine bi h fun aQ h aq=>?_;refine tr ?_;intros;refine cS (za9 aq) ?_;refine nd h F fun h F=>?_;refine nd h F fun h F=>?_;cases h;exact fin;refine bi h fun aR h ar=>?_;refine tr ?_;intros;refine cS (za9 ar) ?_;cases h;exact fin;refine tt ?_;refine fi h F ?_ ?_<;>intro h _ F;cases h;exact fin;refine fi h F ?_ ?_<;>intro h _ F;refine nd h F fun h F=>?_;refine bi h fun aS h au=>?_
 refine tr ?_;intros;refine cD (za9 au) ?_;refine nd h F fun h F=>?_;cases h;exact fin;refine fi h F ?_ ?_<;>intro h _ F;refine nd h F fun h F=>?_;refine bx h F fun aB h av F=>?_;refine bi h fun aC h ad=>?_;refine tr ?_;intros;refine cD (U _ _ ad) ?_;refine nd h F fun h F=>?_;refine nd h F fun h F=>?_;cases h;exact fin;refine fi h F ?_ ?_<;>intro h _ F;refine nd h F fun h F=>?_
 refine nd h F fun h F=>?_;refine bx h F fun aD h aw F=>?_;refine bi h fun aE h ae=>?_;refine tr ?_;intros;refine cD (U _ _ ae) ?_;refine nd h F fun h F=>?_;refine nd h F fun h F=>?_;cases h;exact fin;refine tt ?_;refine fi h F ?_ ?_<;>intro h _ F;refine bx h F fun aF h ax F=>?_;refine bi h fun aG h af=>?_;refine tr ?_;intros;refine cS (I _ _ _ af) ?_;refine nd h F fun h F=>?_;cases h;exact fin
 refine fi h F ?_ ?_<;>intro h _ F;refine bx h F fun aH h ay F=>?_;refine bi h fun aI h ai=>?_;refine tr ?_;intros;refine cS (I _ _ _ ai) ?_;refine nd h F fun h F=>?_;cases h;exact fin;refine bi h fun aJ h aj=>?_;refine tr ?_;intros;refine cS (zjw aj) ?_;refine bx h F fun aK h az F=>?_;refine bi h fun aL h ak=>?_;refine tr ?_;intros;refine cD (I _ _ _ ak) ?_;refine nd h F fun h F=>?_
 refine bi h fun aM h al=>?_;refine tr ?_;intros;refine cD (zua al) ?_;refine nd h F fun h F=>?_;refine nd h F fun h F=>?_;refine bx h F fun aN h aA F=>?_;refine bi h fun aO h an=>?_;refine tr ?_;intros;refine cD (I _ _ _ an) ?_;refine nd h F fun h F=>?_;cases h;exact fin
theorem zrl {U:xtn->Option Str} {aa:xtn->Int->Option Str} {e:xtn} {least:Int} {r:Str}
  (I:∀(x0:xtn) (r:Str),U x0=some r->Pu prog 214 [.agg (xto x0)] (.one (.str r)))
  (ab:∀(x0:xtn) (x1:Int) (r:Str),aa x0 x1=some r->Pu prog 216 [.agg (xto x0),.one (.int .i64 x1)] (.one (.str r))) (h:zfp U aa e least=some r):
  Pu prog 216 [.agg (xto e),.one (.int .i64 least)] (.one (.str r)):=by
 have F:=trivial;have R:=trivial
 refine pA func216 ?_;simp only[f216];unfold zfp at h;refine bi h fun ai h ad=>?_;refine tr ?_;intros;refine cS (zjw ad) ?_;refine fi h F ?_ ?_<;>intro h _ F;refine bi h fun aj h ae=>?_;refine tr ?_;intros;refine cS (I _ _ ae) ?_;refine nd h F fun h F=>?_;refine nd h F fun h F=>?_;cases h;exact fin;refine bi h fun ak h af=>?_;refine tr ?_;intros;refine cS (I _ _ af) ?_;cases h;exact fin
theorem zrj (n:Nat):(∀(I:xtn) (r:Str),(za2 n).1 I=some r->Pu prog 214 [.agg (xto I)] (.one (.str r)))/\(∀(I:xtn) (x1:Int) (r:Str),(za2 n).2 I x1=some r->Pu prog 216 [.agg (xto I),.one (.int .i64 x1)] (.one (.str r))):=by
 induction n with
 |zero=>exact⟨fun _ r h=>(by cases h),fun _ _ r h=>(by cases h)⟩
 |succ n ih=>
  obtain⟨U,ih1⟩:=ih;exact⟨fun _ r h=>zrk U ih1 h,fun _ _ r h=>zrl U ih1 h⟩
theorem zne {e:xtn} {r:Str} (h:zhu e=some r):Pu prog 214 [.agg (xto e)] (.one (.str r)):=(zrj 1000000).1 _ _ h
theorem zbi {e:xtn} {r:Bool} (h:zas e=some r):
  Pu prog 208 [.agg (xto e)] (.one (.bool r)):=by
 have F:=trivial;have R:=trivial
 refine pA func208 ?_;simp only[f208];unfold zas at h;refine bi h fun aa h I=>?_;refine tr ?_;intros;refine cS (zsw I) ?_;refine fi h F ?_ ?_<;>intro h _ F;refine bi h fun ab h U=>?_;refine tr ?_;intros;refine cS (zne U) ?_;cases h;exact fin;cases h;exact fin
theorem zrg {e:xtn} {r:Bool} (h:zfl e=some r):
  Pu prog 207 [.agg (xto e)] (.one (.bool r)):=by
 have F:=trivial;have R:=trivial
 refine pA func207 ?_;simp only[f207];unfold zfl at h;refine fi h F ?_ ?_<;>intro h _ F;refine bi h fun ad h I=>?_;refine tr ?_;intros;refine cS (zbi I) ?_;cases h;exact fin;refine tt ?_;refine fi h F ?_ ?_<;>intro h _ F;refine tr ?_;intros;refine fi h F ?_ ?_<;>intro h _ F;refine fi h F ?_ ?_<;>intro h _ F;refine tt ?_;refine fi h F ?_ ?_<;>intro h _ F;refine bi h fun ae h U=>?_;refine tr ?_
 intros;refine cS (za6 U) ?_;refine fv h F ?_ ?_<;>intro h _ F;refine bx h F fun af h ab F=>?_;refine bi h fun ai h aa=>?_;refine tr ?_;intros;refine cS (zbi aa) ?_;cases h;exact fin;cases h;exact fin;cases h;exact fin;cases h;exact fin;cases h;exact fin;cases h;exact fin
theorem zrn {I:xtn->xtn->Option Bool} {a:xtn} {b:xtn} {r:Bool}
  (U:∀(x0:xtn) (x1:xtn) (r:Bool),I x0 x1=some r->Pu prog 163 [.agg (xto x0),.agg (xto x1)] (.one (.bool r))) (h:zc0 I a b=some r):
  Pu prog 163 [.agg (xto a),.agg (xto b)] (.one (.bool r)):=by
 have F:=trivial;have R:=trivial
 refine pA func163 ?_;simp only[f163];unfold zc0 at h;refine tt ?_;refine fi h F ?_ ?_<;>intro h _ F;refine tt ?_;refine fi h F ?_ ?_<;>intro h _ F;refine tt ?_;refine fi h F ?_ ?_<;>intro h _ F;refine tt ?_;refine fi h F ?_ ?_<;>intro h _ F;refine tr ?_;intros;refine fi h F ?_ ?_<;>intro h _ F;refine bi h fun ai h ae=>?_;refine tt ?_
 refine lX ae (fun|ab,_=>⟨[(2,.one (.ref 0 0 0 0)),(3,.one (.ref 1 0 0 0)),(5,.one (.int .i64 (ab:Int)))],[.cells 0 5 [[.int .i64 a.Op,.int .i64 a.N,.int .i64 a.Kind,.str a.Name,.sl (a.Args.map xto)]],.cells 0 5 [[.int .i64 b.Op,.int .i64 b.N,.int .i64 b.Kind,.str b.Name,.sl (b.Args.map xto)]]]⟩) (fun|(.inl an),_=>⟨[],[]⟩|(.inr ()),_=>⟨[],[.cells 0 5 [[.int .i64 a.Op,.int .i64 a.N,.int .i64 a.Kind,.str a.Name,.sl (a.Args.map xto)]],.cells 0 5 [[.int .i64 b.Op,.int .i64 b.N,.int .i64 b.Kind,.str b.Name,.sl (b.Args.map xto)]]]⟩) (fun|(.inl _)=>none|(.inr _)=>some 0) ?_ ?_
 intro i3 b3 ad
 rcases ai with aj|⟨⟩
 cases ad;obtain rfl:=Wab ad;obtain⟨⟩:=b3;dsimp only at h|-;cases h;exact fin;intro af3 m3 ab a3 o3 aa ho3 ih3;obtain⟨⟩:=a3;dsimp only[zez]at aa|-;refine tr ?_;intros;refine fl aa F ?_ ?_<;>intro aa _ F;refine bx aa F fun ao aa ak F=>?_;refine bx aa F fun aq aa al F=>?_;refine bi aa fun ar aa af=>?_;refine tr ?_;intros;refine cD (U _ _ _ af) ?_;refine tr ?_;intros;refine fv aa F ?_ ?_<;>intro aa _ F
 cases aa;refine tt ?_;refine wn ab F fun F=>?_;exact bk ih3 ho3 ();cases aa;obtain rfl:=sr ho3
 try dsimp only at h
 cases h;exact fin;cases aa;refine tt ?_;exact xt ho3 af3 ();cases h;exact fin;cases h;exact fin;cases h;exact fin;cases h;exact fin;cases h;exact fin
theorem zrm (n:Nat):(∀(I:xtn) (U:xtn) (r:Bool),(zdy n) I U=some r->Pu prog 163 [.agg (xto I),.agg (xto U)] (.one (.bool r))):=by
 induction n with
 |zero=>exact fun _ _ r h=>(by cases h)
 |succ n ih=>
  have aa:=ih
  exact fun _ _ r h=>zrn aa h
theorem zig {a:xtn} {b:xtn} {r:Bool} (h:zdw a b=some r):Pu prog 163 [.agg (xto a),.agg (xto b)] (.one (.bool r)):=(zrm 1000000) _ _ _ h
theorem zbf {e:xtn} {r:Bool} (h:zav e=some r):
  Pu prog 209 [.agg (xto e)] (.one (.bool r)):=by
 have F:=trivial;have R:=trivial
 refine pA func209 ?_;simp only[f209];unfold zav at h;refine bi h fun U h I=>?_;refine tr ?_;intros;refine cS (zig I) ?_;cases h;exact fin
theorem zki {l:List xtn} {r:Bool} (h:zcy l=some r):
  Pu prog 210 [.one (.sl (l.map xto))] (.one (.bool r)):=by
 have F:=trivial;have R:=trivial
 refine pA func210 ?_;simp only[f210];unfold zcy at h;refine bi h fun ae h ab=>?_;refine tt ?_
 refine lX ab (fun|U,_=>⟨[(0,.one (.sl (l.map xto))),(3,.one (.int .i64 (U:Int)))],[]⟩) (fun|(.inl aj),_=>⟨[],[]⟩|(.inr ()),_=>⟨[],[]⟩) (fun|(.inl _)=>none|(.inr _)=>some 0) ?_ ?_
 intro i3 b3 aa
 rcases ae with af|⟨⟩
 cases aa;obtain rfl:=Wab aa;obtain⟨⟩:=b3;dsimp only at h|-;cases h;exact fin;intro af3 m3 U a3 o3 I ho3 ih3;obtain⟨⟩:=a3;dsimp only[zkj]at I|-;refine tr ?_;intros;refine fl I F ?_ ?_<;>intro I _ F;refine bx I F fun ak I ai F=>?_;refine bi I fun al I ad=>?_;refine tr ?_;intros;refine cS (zbi ad) ?_;refine fv I F ?_ ?_<;>intro I _ F;cases I;refine tt ?_;refine wn U F fun F=>?_
 exact bk ih3 ho3 ();cases I;obtain rfl:=sr ho3
 try dsimp only at h
 cases h;exact fin;cases I;refine tt ?_;exact xt ho3 af3 ()
theorem znd {s:xtp} {r:Bool} (h:zcx s=some r):
  Pu prog 200 [.agg (xts s)] (.one (.bool r)):=by
 have F:=trivial;have R:=trivial
 refine pA func200 ?_;simp only[f200];unfold zcx at h;refine tr ?_;intros;refine fi h F ?_ ?_<;>intro h _ F;refine tr ?_;intros;refine fi h F ?_ ?_<;>intro h _ F;refine fi h F ?_ ?_<;>intro h _ F;refine tt ?_;refine fi h F ?_ ?_<;>intro h _ F;refine tr ?_;intros;refine fi h F ?_ ?_<;>intro h _ F;refine bi h fun aO h aq=>?_;refine tr ?_;intros;refine cS (zrg aq) ?_;refine fv h F ?_ ?_<;>intro h _ F
 refine bi h fun aP h ar=>?_;refine tr ?_;intros;refine cS (zbi ar) ?_;cases h;exact fin;cases h;exact fin;cases h;exact fin;cases h;exact fin;cases h;exact fin;refine fi h F ?_ ?_<;>intro h _ F;refine fi h F ?_ ?_<;>intro h _ F;refine tr ?_;intros;refine fi h F ?_ ?_<;>intro h _ F;refine bi h fun aQ h au=>?_;refine tr ?_;intros;refine cS (zbf au) ?_;refine fv h F ?_ ?_<;>intro h _ F
 refine bi h fun aR h av=>?_;refine tr ?_;intros;refine cS (zbi av) ?_;cases h;exact fin;cases h;exact fin;cases h;exact fin;cases h;exact fin;refine fi h F ?_ ?_<;>intro h _ F;refine tt ?_;refine fi h F ?_ ?_<;>intro h _ F;refine tr ?_;intros;refine fi h F ?_ ?_<;>intro h _ F;refine tr ?_;intros;refine fi h F ?_ ?_<;>intro h _ F;refine bi h fun aS h aw=>?_;refine tr ?_;intros;refine cS (zbf aw) ?_
 refine fv h F ?_ ?_<;>intro h _ F;refine bi h fun aT h ax=>?_;refine tr ?_;intros;refine cS (zbi ax) ?_;cases h;exact fin;cases h;exact fin;cases h;exact fin;cases h;exact fin;cases h;exact fin;refine fi h F ?_ ?_<;>intro h _ F;refine bi h fun aU h ay=>?_;refine tr ?_;intros;refine cS (za6 ay) ?_;refine fv h F ?_ ?_<;>intro h _ F;refine tr ?_;intros;refine fi h F ?_ ?_<;>intro h _ F
 refine bi h fun aV h az=>?_;refine tr ?_;intros;refine cS (zki az) ?_;refine fv h F ?_ ?_<;>intro h _ F;refine tr ?_;intros;refine fi h F ?_ ?_<;>intro h _ F;refine bi h fun aW h aA=>?_;refine tr ?_;intros;refine cS (zbf aA) ?_;refine fv h F ?_ ?_<;>intro h _ F;refine bi h fun aB h I=>?_;refine tr ?_;intros;refine cS (zbf I) ?_;cases h;exact fin;cases h;exact fin;cases h;exact fin
 cases h;exact fin;cases h;exact fin;cases h;exact fin;refine tt ?_;refine fi h F ?_ ?_<;>intro h _ F;refine fi h F ?_ ?_<;>intro h _ F;refine bi h fun aC h U=>?_;refine tr ?_;intros;refine cS (za6 U) ?_;refine fv h F ?_ ?_<;>intro h _ F;refine bi h fun aD h aa=>?_;refine tr ?_;intros;refine cS (zbf aa) ?_;refine fv h F ?_ ?_<;>intro h _ F;refine bi h fun aE h ab=>?_;refine tr ?_
 intros;refine cS (zbf ab) ?_;refine fv h F ?_ ?_<;>intro h _ F;refine tr ?_;intros;refine fi h F ?_ ?_<;>intro h _ F;refine bi h fun aF h ad=>?_;refine tr ?_;intros;refine cS (zki ad) ?_;cases h;exact fin;cases h;exact fin;cases h;exact fin;cases h;exact fin;cases h;exact fin;cases h;exact fin;cases h;exact fin;refine fi h F ?_ ?_<;>intro h _ F;cases h;exact fin;refine tt ?_;refine fi h F ?_ ?_<;>intro h _ F
 refine fi h F ?_ ?_<;>intro h _ F;refine tr ?_;intros;refine fi h F ?_ ?_<;>intro h _ F;refine bi h fun aG h ae=>?_;refine tr ?_;intros;refine cS (zbf ae) ?_;refine fv h F ?_ ?_<;>intro h _ F;refine bi h fun aH h af=>?_;refine tr ?_;intros;refine cS (zbi af) ?_;cases h;exact fin;cases h;exact fin;cases h;exact fin;cases h;exact fin;refine fi h F ?_ ?_<;>intro h _ F;refine fi h F ?_ ?_<;>intro h _ F
 refine tr ?_;intros;refine fi h F ?_ ?_<;>intro h _ F;refine tr ?_;intros;refine fi h F ?_ ?_<;>intro h _ F;refine bi h fun aI h ai=>?_;refine tr ?_;intros;refine cS (zbf ai) ?_;refine fv h F ?_ ?_<;>intro h _ F;refine bi h fun aJ h aj=>?_;refine tr ?_;intros;refine cS (zbi aj) ?_;cases h;exact fin;cases h;exact fin;cases h;exact fin;cases h;exact fin;cases h;exact fin;refine fi h F ?_ ?_<;>intro h _ F
 refine bi h fun aK h ak=>?_;refine tr ?_;intros;refine cS (za6 ak) ?_;refine fv h F ?_ ?_<;>intro h _ F;refine tr ?_;intros;refine fi h F ?_ ?_<;>intro h _ F;refine bi h fun aL h al=>?_;refine tr ?_;intros;refine cS (zki al) ?_;refine fv h F ?_ ?_<;>intro h _ F;refine tr ?_;intros;refine fi h F ?_ ?_<;>intro h _ F;refine bi h fun aM h an=>?_;refine tr ?_;intros;refine cS (zbf an) ?_
 refine fv h F ?_ ?_<;>intro h _ F;refine bi h fun aN h ao=>?_;refine tr ?_;intros;refine cS (zbf ao) ?_;cases h;exact fin;cases h;exact fin;cases h;exact fin;cases h;exact fin;cases h;exact fin;cases h;exact fin;refine fi h F ?_ ?_<;>intro h _ F;cases h;exact fin;cases h;exact fin
theorem zbh {e:xtn} {r:Str} (h:za8 e=some r):
  Pu prog 211 [.agg (xto e)] (.one (.str r)):=by
 have F:=trivial;have R:=trivial
 refine pA func211 ?_;simp only[f211];unfold za8 at h;refine bi h fun aa h I=>?_;refine tr ?_;intros;refine cS (zbi I) ?_;refine fv h F ?_ ?_<;>intro h _ F;refine bi h fun ab h U=>?_;refine tr ?_;intros;refine cS (zne U) ?_;cases h;exact fin;cases h;exact fin
theorem zst {e:xtn} {r:Str} (h:zgg e=some r):
  Pu prog 212 [.agg (xto e)] (.one (.str r)):=by
 have F:=trivial;have R:=trivial
 refine pA func212 ?_;simp only[f212];unfold zgg at h;refine fi h F ?_ ?_<;>intro h _ F;refine bx h F fun aa h U F=>?_;refine bi h fun ab h I=>?_;refine tr ?_;intros;refine cS (zbh I) ?_;refine nd h F fun h F=>?_;refine nd h F fun h F=>?_;cases h;exact fin;cases h;exact fin
theorem zie {s:xtp} {r:Str} (h:zcw s=some r):
  Pu prog 201 [.agg (xts s)] (.one (.str r)):=by
 have F:=trivial;have R:=trivial
 refine pA func201 ?_;simp only[f201];unfold zcw at h;refine fi h F ?_ ?_<;>intro h _ F;refine bi h fun aN h ao=>?_;refine tr ?_;intros;refine cD (zbh ao) ?_;refine bi h fun aO h aq=>?_;refine tr ?_;intros;refine cD (zst aq) ?_;refine nd h F fun h F=>?_;refine nd h F fun h F=>?_;refine bi h fun aP h ar=>?_;refine tr ?_;intros;refine cD (zbh ar) ?_;refine nd h F fun h F=>?_;refine nd h F fun h F=>?_
 cases h;exact fin;refine tt ?_;refine fi h F ?_ ?_<;>intro h _ F;refine bi h fun aQ h au=>?_;refine tr ?_;intros;refine cS (zbh au) ?_;refine nd h F fun h F=>?_;refine nd h F fun h F=>?_;cases h;exact fin;refine fi h F ?_ ?_<;>intro h _ F;refine bi h fun aE h af=>?_;refine tr ?_;intros;refine cS (zbh af) ?_;refine nd h F fun h F=>?_;refine nd h F fun h F=>?_;cases h;exact fin;refine fi h F ?_ ?_<;>intro h _ F
 refine nd h F fun h F=>?_;refine nd h F fun h F=>?_;refine bx h F fun aF h aA F=>?_;refine bi h fun aG h ai=>?_;refine tr ?_;intros;refine cD (zbh ai) ?_;refine nd h F fun h F=>?_;refine nd h F fun h F=>?_;refine bx h F fun aH h aB F=>?_;refine bi h fun aI h aj=>?_;refine tr ?_;intros;refine cD (zbh aj) ?_;refine nd h F fun h F=>?_;refine nd h F fun h F=>?_;cases h;exact fin
 refine nd h F fun h F=>?_;refine bi h fun ab h ak=>?_;refine tr ?_;intros
 refine lX ak (fun|(ad,U),_=>⟨[(1,.one (.ref 0 0 0 0)),(3,.one (.str ad)),(4,.one (.int .i64 (U:Int)))],[.cells 0 15 [[.int .i64 s.Kind,.str s.Name,.int .i64 s.Target.Op,.int .i64 s.Target.N,.int .i64 s.Target.Kind,.str s.Target.Name,.sl (s.Target.Args.map xto),.int .i64 s.Value.Op,.int .i64 s.Value.N,.int .i64 s.Value.Kind,.str s.Value.Name,.sl (s.Value.Args.map xto),.sl (s.Args.map xto),.sl (s.Body.map xts),.sl (s.Else.map xts)]]]⟩) (fun|ab,_=>⟨[(3,.one (.str ab))],[.cells 0 15 [[.int .i64 s.Kind,.str s.Name,.int .i64 s.Target.Op,.int .i64 s.Target.N,.int .i64 s.Target.Kind,.str s.Target.Name,.sl (s.Target.Args.map xto),.int .i64 s.Value.Op,.int .i64 s.Value.N,.int .i64 s.Value.Kind,.str s.Value.Name,.sl (s.Value.Args.map xto),.sl (s.Args.map xto),.sl (s.Body.map xts),.sl (s.Else.map xts)]]]⟩) (fun _=>some 1) ?_ ?_
 intro i28 ax av;obtain rfl:=Wab av;obtain⟨⟩:=ax;dsimp only at h|-;refine nd h F fun h F=>?_;cases h;exact fin;intro aw aR ay az aS I aa ae;obtain⟨ad,U⟩:=ay;obtain⟨⟩:=az;dsimp only[zkh]at I|-;refine tr ?_;intros;refine fl I F ?_ ?_<;>intro I _ F;refine fi I F ?_ ?_<;>intro I _ F;refine nd I F fun I F=>?_;refine bx I F fun aJ I aC F=>?_;refine bi I fun aK I al=>?_;refine tr ?_
 intros;refine cS (zbh al) ?_;refine nd I F fun I F=>?_;cases I;refine tr ?_;intros;refine wn U F fun F=>?_;exact bk ae aa ();refine bx I F fun aL I aD F=>?_;refine bi I fun aM I an=>?_;refine tr ?_;intros;refine cS (zbh an) ?_;refine nd I F fun I F=>?_;cases I;refine tr ?_;intros;refine wn U F fun F=>?_;exact bk ae aa ();cases I;refine tt ?_;exact xt aa aw ()
theorem zqo {ab:(List xtp)->Int->Int->Option Int} {l:List xtp} {deep:Int} {left:Int} {r:Int}
  (I:∀(x0:List xtp) (x1:Int) (x2:Int) (r:Int),ab x0 x1 x2=some r->Pu prog 188 [.one (.sl (x0.map xts)),.one (.int .i64 x1),.one (.int .i64 x2)] (.one (.int .i64 r))) (h:zdl ab l deep left=some r):
  Pu prog 188 [.one (.sl (l.map xts)),.one (.int .i64 deep),.one (.int .i64 left)] (.one (.int .i64 r)):=by
 have F:=trivial;have R:=trivial
 refine pA func188 ?_;simp only[f188];unfold zdl at h;refine fi h F ?_ ?_<;>intro h _ F;cases h;exact fin;refine tr ?_;intros;refine fi h F ?_ ?_<;>intro h _ F;refine fi h F ?_ ?_<;>intro h _ F;cases h;exact fin;refine tr ?_;intros;refine fi h F ?_ ?_<;>intro h _ F;cases h;exact fin;refine bi h fun aJ h aD=>?_;refine tt ?_
 refine lX aD (fun|(al,an),_=>⟨[(0,.one (.sl (l.map xts))),(1,.one (.int .i64 deep)),(2,.one (.int .i64 al)),(7,.one (.int .i64 (an:Int)))],[]⟩) (fun|(.inl aO),_=>⟨[],[]⟩|(.inr af),_=>⟨[(2,.one (.int .i64 af))],[]⟩) (fun|(.inl _)=>none|(.inr _)=>some 0) ?_ ?_
 intro i4 b4 aB
 rcases aJ with aq|af
 cases aB;obtain rfl:=Wab aB;obtain⟨⟩:=b4;dsimp only at h|-;cases h;exact fin;intro aC m4 s4 a4 o4 aa ai ar;obtain⟨al,an⟩:=s4;obtain⟨⟩:=a4;dsimp only[zjv]at aa|-;refine tr ?_;intros;refine fl aa F ?_ ?_<;>intro aa _ F;refine fi aa F ?_ ?_<;>intro aa _ F;refine bx aa F fun aW aa aP F=>?_;refine bi aa fun aX aa aE=>?_;refine tr ?_;intros;refine cS (znd aE) ?_;refine fv aa F ?_ ?_<;>intro aa _ F
 refine bi aa fun aY aa aF=>?_;refine tr ?_;intros;refine cS (zie aF) ?_;refine tr ?_;intros;refine fi aa F ?_ ?_<;>intro aa _ F;refine bi aa fun aZ aa aG=>?_;refine tr ?_;intros;refine cS (I _ _ _ _ aG) ?_;refine fi aa F ?_ ?_<;>intro aa _ F;refine bi aa fun a5 aa aH=>?_;refine tr ?_;intros;refine cS (I _ _ _ _ aH) ?_;cases aa;refine tt ?_;refine wn an F fun F=>?_;exact bk ar ai ();cases aa
 refine tt ?_;refine wn an F fun F=>?_;exact bk ar ai ();cases aa;refine tt ?_;refine wn an F fun F=>?_;exact bk ar ai ();cases aa;obtain rfl:=sr ai
 try dsimp only at h
 cases h;exact fin;cases aa;refine tt ?_;exact xt ai aC ();cases aa;refine tt ?_;exact xt ai aC ();refine tr ?_;intros;refine fi h F ?_ ?_<;>intro h _ F;cases h;exact fin;refine bi h fun aI h aw=>?_;refine tt ?_
 refine lX aw (fun|(aj,ae),_=>⟨[(0,.one (.sl (l.map xts))),(1,.one (.int .i64 deep)),(2,.one (.int .i64 aj)),(7,.one (.int .i64 (ae:Int)))],[]⟩) (fun|(.inl aQ),_=>⟨[],[]⟩|(.inr ak),_=>⟨[(2,.one (.int .i64 ak))],[]⟩) (fun|(.inl _)=>none|(.inr _)=>some 0) ?_ ?_
 intro i15 aK au
 rcases aI with aq|ak
 cases au;obtain rfl:=Wab au;obtain⟨⟩:=aK;dsimp only at h|-;cases h;exact fin;intro av a6 aL aM a7 U ad ao;obtain⟨aj,ae⟩:=aL;obtain⟨⟩:=aM;dsimp only[zju]at U|-;refine tr ?_;intros;refine fl U F ?_ ?_<;>intro U _ F;refine fi U F ?_ ?_<;>intro U _ F;refine bx U F fun aR U aN F=>?_;refine bi U fun aS U ax=>?_;refine tr ?_;intros;refine cS (znd ax) ?_;refine fv U F ?_ ?_<;>intro U _ F
 refine bi U fun aT U ay=>?_;refine tr ?_;intros;refine cS (zie ay) ?_;refine tr ?_;intros;refine fi U F ?_ ?_<;>intro U _ F;refine bi U fun aU U az=>?_;refine tr ?_;intros;refine cS (I _ _ _ _ az) ?_;refine fi U F ?_ ?_<;>intro U _ F;refine bi U fun aV U aA=>?_;refine tr ?_;intros;refine cS (I _ _ _ _ aA) ?_;cases U;refine tt ?_;refine wn ae F fun F=>?_;exact bk ao ad ();cases U;refine tt ?_
 refine wn ae F fun F=>?_;exact bk ao ad ();cases U;refine tt ?_;refine wn ae F fun F=>?_;exact bk ao ad ();cases U;obtain rfl:=sr ad
 try dsimp only at h
 cases h;exact fin;cases U;refine tt ?_;exact xt ad av ();cases U;refine tt ?_;exact xt ad av ()
theorem zqn (n:Nat):(∀(I:List xtp) (U:Int) (x2:Int) (r:Int),(zck n) I U x2=some r->Pu prog 188 [.one (.sl (I.map xts)),.one (.int .i64 U),.one (.int .i64 x2)] (.one (.int .i64 r))):=by
 induction n with
 |zero=>exact fun _ _ _ r h=>(by cases h)
 |succ n ih=>
  have aa:=ih
  exact fun _ _ _ r h=>zqo aa h
theorem zsu {l:List xtp} {deep:Int} {left:Int} {r:Int} (h:zor l deep left=some r):Pu prog 188 [.one (.sl (l.map xts)),.one (.int .i64 deep),.one (.int .i64 left)] (.one (.int .i64 r)):=(zqn 1000000) _ _ _ _ h
theorem zt9 {l:List xtp} {r:Bool} (h:zht l=some r):
  Pu prog 160 [.one (.sl (l.map xts))] (.one (.bool r)):=by
 have F:=trivial;have R:=trivial
 refine pA func160 ?_;simp only[f160];unfold zht at h;refine bi h fun U h I=>?_;refine tr ?_;intros;refine cS (zsu I) ?_;cases h;exact fin
theorem zsr {p:xtm} {r:Bool} (h:zge p=some r):
  Pu prog 120 [.agg (xtr p)] (.one (.bool r)):=by
 have F:=trivial;have R:=trivial
 refine pA func120 ?_;simp only[f120];unfold zge at h;refine bi h fun ao h ak=>?_;refine tt ?_
 refine lX ak (fun|ab,_=>⟨[(1,.one (.ref 0 0 0 0)),(3,.one (.int .i64 (ab:Int)))],[.cells 0 6 [(eP_ p)]]⟩) (fun|(.inl av),_=>⟨[],[]⟩|(.inr ()),_=>⟨[],[.cells 0 6 [(eP_ p)]]⟩) (fun|(.inl _)=>none|(.inr _)=>some 0) ?_ ?_
 intro i3 b3 ai
 rcases ao with ae|⟨⟩
 cases ai;obtain rfl:=Wab ai;obtain⟨⟩:=b3;dsimp only at h|-;cases h;exact fin;intro af3 m3 ab a3 o3 I ho3 ih3;obtain⟨⟩:=a3;dsimp only[zg2]at I|-;refine tr ?_;intros;refine fl I F ?_ ?_<;>intro I _ F;refine bx I F fun aa I aw F=>?_;refine tr ?_;intros;refine fi I F ?_ ?_<;>intro I _ F;cases I;obtain rfl:=sr ho3
 try dsimp only at h
 cases h;exact fin;refine fi I F ?_ ?_<;>intro I _ F;cases I;obtain rfl:=sr ho3
 try dsimp only at h
 cases h;exact fin;refine tt ?_;refine fi I F ?_ ?_<;>intro I _ F;cases I;obtain rfl:=sr ho3
 try dsimp only at h
 cases h;exact fin;refine fi I F ?_ ?_<;>intro I _ F;cases I;obtain rfl:=sr ho3
 try dsimp only at h
 cases h;exact fin;refine tr ?_;intros;refine fi I F ?_ ?_<;>intro I _ F;refine bi I fun az I al=>?_;refine tr ?_;intros;refine cS (zt9 al) ?_;refine fv I F ?_ ?_<;>intro I _ F;refine bi I fun aq I an=>?_;refine tt ?_
 refine lX an (fun|af,_=>⟨[(1,.one (.ref 0 0 0 0)),(3,.one (.int .i64 (ab:Int))),(4,.one (.ref 1 0 0 0)),(5,.one (.int .i64 (af:Int)))],[.cells 0 6 [(eP_ p)],.cells 0 4 [[.int .i64 aa.Every,.int .i64 aa.Priority,.sl (aa.Budget.map eI),.sl (aa.Body.map xts)]]]⟩) (fun|(.inl ax),_=>⟨[],[]⟩|(.inr ()),_=>⟨[(1,.one (.ref 0 0 0 0)),(3,.one (.int .i64 (ab:Int)))],[.cells 0 6 [(eP_ p)],.cells 0 4 [[.int .i64 aa.Every,.int .i64 aa.Priority,.sl (aa.Budget.map eI),.sl (aa.Body.map xts)]]]⟩) (fun|(.inl _)=>none|(.inr _)=>some 2) ?_ ?_
 intro i8 b8 aj
 rcases aq with ae|⟨⟩
 cases aj;obtain rfl:=Wab aj;obtain⟨⟩:=b8;dsimp only at I|-;cases I;refine tt ?_;refine wn ab F fun F=>?_;exact bk ih3 ho3 ();intro ar m8 af a8 o8 U ad au;obtain⟨⟩:=a8;dsimp only[zg1]at U|-;refine tr ?_;intros;refine fl U F ?_ ?_<;>intro U _ F;refine bx U F fun aA U ay F=>?_;refine tr ?_;intros;refine fi U F ?_ ?_<;>intro U _ F;cases U;obtain rfl:=sr ad
 try dsimp only at I
 cases I;obtain rfl:=sr ho3
 try dsimp only at h
 cases h;exact fin;refine tr ?_;intros;refine fi U F ?_ ?_<;>intro U _ F;cases U;obtain rfl:=sr ad
 try dsimp only at I
 cases I;obtain rfl:=sr ho3
 try dsimp only at h
 cases h;exact fin;cases U;refine tt ?_;refine wn af F fun F=>?_;exact bk au ad ();cases U;refine tt ?_;exact xt ad ar ();cases I;obtain rfl:=sr ho3
 try dsimp only at h
 cases h;exact fin;cases I;obtain rfl:=sr ho3
 try dsimp only at h
 cases h;exact fin;cases I;refine tt ?_;exact xt ho3 af3 ()
theorem zf0 {n:Int} {r:Str} (h:zb6 n=some r):
  Pu prog 190 [.one (.int .i64 n)] (.one (.str r)):=by
 have F:=trivial;have R:=trivial
 refine pA func190 ?_;simp only[f190];unfold zb6 at h;refine fi h F ?_ ?_<;>intro h _ F;refine bi h fun aa h I=>?_;refine tr ?_;intros;refine cS (za9 I) ?_;refine nd h F fun h F=>?_;cases h;exact fin;refine bi h fun ab h U=>?_;refine tr ?_;intros;refine cS (za9 U) ?_;cases h;exact fin
theorem zu4 {t:xt3} {r:Str} (h:ziw t=some r):
  Pu prog 189 [.agg (xt7 t)] (.one (.str r)):=by
 have F:=trivial;have R:=trivial
 refine pA func189 ?_;simp only[f189];unfold ziw at h;refine by_ h F fun ab h I F=>?_;refine ln F fun F=>?_
 have R:=And.intro (show([[.str []],[.str ([66,79,79,76]:Str)],[.str ([73,78,84]:Str)],[.str ([68,73,78,84]:Str)],[.str ([84,73,77,69]:Str)]]:List (List C))[t.Kind.toNat]? =some [.str ab]from ylz (f:=eS) I) R
 refine tr ?_;intros;refine fi h F ?_ ?_<;>intro h _ F;cases h;exact fin;refine bi h fun ad h U=>?_;refine tr ?_;intros;refine cD (zf0 U) ?_;refine nd h F fun h F=>?_;refine nd h F fun h F=>?_;refine bi h fun ae h aa=>?_;refine tr ?_;intros;refine cD (zf0 aa) ?_;refine nd h F fun h F=>?_;refine nd h F fun h F=>?_;refine nd h F fun h F=>?_;cases h;exact fin
theorem zu5 {p:xtm} {v:xtv} {r:Str} (h:zix p v=some r):
  Pu prog 161 [.agg (xtr p),.agg (xtx v)] (.one (.str r)):=by
 have F:=trivial;have R:=trivial
 refine pA func161 ?_;simp only[f161];unfold zix at h;refine by_ h F fun ad h aa F=>?_;refine ln F fun F=>?_
 have R:=And.intro (show([[.str ([86,65,82,32]:Str)],[.str ([73,78,80,85,84,32]:Str)],[.str ([79,85,84,80,85,84,32]:Str)]]:List (List C))[v.Mode.toNat]? =some [.str ad]from ylz (f:=eS) aa) R
 refine nd h F fun h F=>?_;refine nd h F fun h F=>?_;refine bi h fun aj h ab=>?_;refine tr ?_;intros;refine cD (zu4 ab) ?_;refine nd h F fun h F=>?_;refine tr ?_;intros;refine fi h F ?_ ?_<;>intro h _ F;refine by_ h F fun ak h ae F=>?_;refine nd h F fun h F=>?_;refine nd h F fun h F=>?_;refine tr ?_;intros;refine fi h F ?_ ?_<;>intro h _ F;refine fi h F ?_ ?_<;>intro h _ F;refine tt ?_
 refine fi h F ?_ ?_<;>intro h _ F;refine nd h F fun h F=>?_;refine nd h F fun h F=>?_;cases h;exact fin;refine nd h F fun h F=>?_;refine nd h F fun h F=>?_;cases h;exact fin;refine bi h fun af h I=>?_;refine tr ?_;intros;refine cS (zf0 I) ?_;refine nd h F fun h F=>?_;refine nd h F fun h F=>?_;refine nd h F fun h F=>?_;cases h;exact fin;refine nd h F fun h F=>?_;cases h;exact fin
 refine fi h F ?_ ?_<;>intro h _ F;refine tt ?_;refine fi h F ?_ ?_<;>intro h _ F;refine fi h F ?_ ?_<;>intro h _ F;refine nd h F fun h F=>?_;refine nd h F fun h F=>?_;cases h;exact fin;refine nd h F fun h F=>?_;refine nd h F fun h F=>?_;cases h;exact fin;refine bi h fun ai h U=>?_;refine tr ?_;intros;refine cS (zf0 U) ?_;refine nd h F fun h F=>?_;refine nd h F fun h F=>?_;refine nd h F fun h F=>?_
 cases h;exact fin;refine nd h F fun h F=>?_;cases h;exact fin
theorem zrf {ad:(List xtp)->Option Str} {l:List xtp} {r:Str}
  (U:∀(x0:List xtp) (r:Str),ad x0=some r->Pu prog 202 [.one (.sl (x0.map xts))] (.one (.str r))) (h:zfk ad l=some r):
  Pu prog 202 [.one (.sl (l.map xts))] (.one (.str r)):=by
 have F:=trivial;have R:=trivial
 refine pA func202 ?_;simp only[f202];unfold zfk at h;refine bi h fun ao h ar=>?_;refine tt ?_
 refine lX ar (fun|(aq,aa),_=>⟨[(0,.one (.sl (l.map xts))),(3,.one (.str aq)),(4,.one (.int .i64 (aa:Int)))],[]⟩) (fun|ao,_=>⟨[(3,.one (.str ao))],[]⟩) (fun _=>some 0) ?_ ?_
 intro i4 b4 aw;obtain rfl:=Wab aw;obtain⟨⟩:=b4;dsimp only at h|-;cases h;exact fin;intro ax m4 s4 a4 o4 I ab ae;obtain⟨aq,aa⟩:=s4;obtain⟨⟩:=a4;dsimp only[zkg]at I|-;refine tr ?_;intros;refine fl I F ?_ ?_<;>intro I _ F;refine fi I F ?_ ?_<;>intro I _ F;refine nd I F fun I F=>?_;refine bx I F fun aH I az F=>?_;refine bi I fun aI I au=>?_;refine tr ?_;intros;refine cS (zie au) ?_
 refine nd I F fun I F=>?_;refine bi I fun aJ I av=>?_;refine tr ?_;intros;refine cS (U _ _ av) ?_;refine fi I F ?_ ?_<;>intro I _ F;refine tr ?_;intros;refine fi I F ?_ ?_<;>intro I _ F;refine nd I F fun I F=>?_;refine tr ?_;intros;refine fi I F ?_ ?_<;>intro I _ F;refine bi I fun aA I af=>?_;refine tr ?_;intros;refine cS (U _ _ af) ?_;refine nd I F fun I F=>?_;refine nd I F fun I F=>?_
 refine nd I F fun I F=>?_;refine nd I F fun I F=>?_;cases I;refine tr ?_;intros;refine wn aa F fun F=>?_;exact bk ae ab ();refine nd I F fun I F=>?_;cases I;refine tr ?_;intros;refine wn aa F fun F=>?_;exact bk ae ab ();refine fi I F ?_ ?_<;>intro I _ F;refine nd I F fun I F=>?_;refine nd I F fun I F=>?_;cases I;refine tr ?_;intros;refine wn aa F fun F=>?_;exact bk ae ab ();refine fi I F ?_ ?_<;>intro I _ F
 refine nd I F fun I F=>?_;refine nd I F fun I F=>?_;cases I;refine tr ?_;intros;refine wn aa F fun F=>?_;exact bk ae ab ();cases I;refine tt ?_;refine wn aa F fun F=>?_;exact bk ae ab ();refine nd I F fun I F=>?_;refine tr ?_;intros;refine fi I F ?_ ?_<;>intro I _ F;refine nd I F fun I F=>?_;refine tr ?_;intros;refine fi I F ?_ ?_<;>intro I _ F;refine bi I fun aB I ai=>?_;refine tr ?_
 intros;refine cS (U _ _ ai) ?_;refine nd I F fun I F=>?_;refine nd I F fun I F=>?_;refine nd I F fun I F=>?_;refine nd I F fun I F=>?_;cases I;refine tr ?_;intros;refine wn aa F fun F=>?_;exact bk ae ab ();refine nd I F fun I F=>?_;cases I;refine tr ?_;intros;refine wn aa F fun F=>?_;exact bk ae ab ();refine fi I F ?_ ?_<;>intro I _ F;refine nd I F fun I F=>?_;refine nd I F fun I F=>?_
 cases I;refine tr ?_;intros;refine wn aa F fun F=>?_;exact bk ae ab ();refine fi I F ?_ ?_<;>intro I _ F;refine nd I F fun I F=>?_;refine nd I F fun I F=>?_;cases I;refine tr ?_;intros;refine wn aa F fun F=>?_;exact bk ae ab ();cases I;refine tt ?_;refine wn aa F fun F=>?_;exact bk ae ab ();refine bx I F fun aC I ay F=>?_;refine bi I fun aD I aj=>?_;refine tr ?_;intros;refine cS (zie aj) ?_
 refine nd I F fun I F=>?_;refine bi I fun aE I ak=>?_;refine tr ?_;intros;refine cS (U _ _ ak) ?_;refine fi I F ?_ ?_<;>intro I _ F;refine tr ?_;intros;refine fi I F ?_ ?_<;>intro I _ F;refine nd I F fun I F=>?_;refine tr ?_;intros;refine fi I F ?_ ?_<;>intro I _ F;refine bi I fun aF I al=>?_;refine tr ?_;intros;refine cS (U _ _ al) ?_;refine nd I F fun I F=>?_;refine nd I F fun I F=>?_
 refine nd I F fun I F=>?_;refine nd I F fun I F=>?_;cases I;refine tr ?_;intros;refine wn aa F fun F=>?_;exact bk ae ab ();refine nd I F fun I F=>?_;cases I;refine tr ?_;intros;refine wn aa F fun F=>?_;exact bk ae ab ();refine fi I F ?_ ?_<;>intro I _ F;refine nd I F fun I F=>?_;refine nd I F fun I F=>?_;cases I;refine tr ?_;intros;refine wn aa F fun F=>?_;exact bk ae ab ();refine fi I F ?_ ?_<;>intro I _ F
 refine nd I F fun I F=>?_;refine nd I F fun I F=>?_;cases I;refine tr ?_;intros;refine wn aa F fun F=>?_;exact bk ae ab ();cases I;refine tt ?_;refine wn aa F fun F=>?_;exact bk ae ab ();refine nd I F fun I F=>?_;refine tr ?_;intros;refine fi I F ?_ ?_<;>intro I _ F;refine nd I F fun I F=>?_;refine tr ?_;intros;refine fi I F ?_ ?_<;>intro I _ F;refine bi I fun aG I an=>?_;refine tr ?_
 intros;refine cS (U _ _ an) ?_;refine nd I F fun I F=>?_;refine nd I F fun I F=>?_;refine nd I F fun I F=>?_;refine nd I F fun I F=>?_;cases I;refine tr ?_;intros;refine wn aa F fun F=>?_;exact bk ae ab ();refine nd I F fun I F=>?_;cases I;refine tr ?_;intros;refine wn aa F fun F=>?_;exact bk ae ab ();refine fi I F ?_ ?_<;>intro I _ F;refine nd I F fun I F=>?_;refine nd I F fun I F=>?_
 cases I;refine tr ?_;intros;refine wn aa F fun F=>?_;exact bk ae ab ();refine fi I F ?_ ?_<;>intro I _ F;refine nd I F fun I F=>?_;refine nd I F fun I F=>?_;cases I;refine tr ?_;intros;refine wn aa F fun F=>?_;exact bk ae ab ();cases I;refine tt ?_;refine wn aa F fun F=>?_;exact bk ae ab ();cases I;refine tt ?_;exact xt ab ax ()
theorem zre (n:Nat):(∀(I:List xtp) (r:Str),(zfj n) I=some r->Pu prog 202 [.one (.sl (I.map xts))] (.one (.str r))):=by
 induction n with
 |zero=>exact fun _ r h=>(by cases h)
 |succ n ih=>
  have U:=ih
  exact fun _ r h=>zrf U h
theorem zt5 {l:List xtp} {r:Str} (h:zpg l=some r):Pu prog 202 [.one (.sl (l.map xts))] (.one (.str r)):=(zre 1000000) _ _ h
theorem zt7 {l:List xtp} {r:Str} (h:zhs l=some r):
  Pu prog 192 [.one (.sl (l.map xts))] (.one (.str r)):=by
 have F:=trivial;have R:=trivial
 refine pA func192 ?_;simp only[f192];unfold zhs at h;refine bi h fun U h I=>?_;refine tr ?_;intros;refine cS (zt5 I) ?_;cases h;exact fin
theorem zt2 {p:xtm} {t:xt4} {r:Str} (h:zhp p t=some r):
  Pu prog 162 [.agg (xtr p),.agg (xt0 t)] (.one (.str r)):=by
 have F:=trivial;have R:=trivial
 refine pA func162 ?_;simp only[f162];unfold zhp at h;refine bi h fun aE h ak=>?_;refine tr ?_;intros;refine cD (za9 ak) ?_;refine nd h F fun h F=>?_;refine nd h F fun h F=>?_;refine bi h fun aF h al=>?_;refine tr ?_;intros;refine cD (za9 al) ?_;refine nd h F fun h F=>?_;refine bi h fun af h an=>?_;refine tr ?_;intros
 refine lX an (fun|(ai,U),_=>⟨[(2,.one (.ref 0 0 0 0)),(3,.one (.ref 1 0 0 0)),(5,.one (.str ai)),(6,.one (.int .i64 (U:Int)))],[.cells 0 6 [(eP_ p)],.cells 0 4 [[.int .i64 t.Every,.int .i64 t.Priority,.sl (t.Budget.map eI),.sl (t.Body.map xts)]]]⟩) (fun|af,_=>⟨[(3,.one (.ref 1 0 0 0)),(5,.one (.str af))],[.cells 0 6 [(eP_ p)],.cells 0 4 [[.int .i64 t.Every,.int .i64 t.Priority,.sl (t.Budget.map eI),.sl (t.Body.map xts)]]]⟩) (fun _=>some 0) ?_ ?_
 intro i9 b9 ao;obtain rfl:=Wab ao;obtain⟨⟩:=b9;dsimp only at h|-;refine nd h F fun h F=>?_;refine bi h fun ax h ab=>?_;refine tr ?_;intros;refine cS (zt7 ab) ?_;refine fi h F ?_ ?_<;>intro h _ F;refine nd h F fun h F=>?_;cases h;exact fin;refine nd h F fun h F=>?_;refine nd h F fun h F=>?_;refine nd h F fun h F=>?_;cases h;exact fin;intro aq m9 s9 a9 o9 I aa aj;obtain⟨ai,U⟩:=s9
 obtain⟨⟩:=a9;dsimp only[zke]at I|-;refine tr ?_;intros;refine fl I F ?_ ?_<;>intro I _ F;refine fi I F ?_ ?_<;>intro I _ F;refine nd I F fun I F=>?_;refine bx I F fun ay I ar F=>?_;refine nd I F fun I F=>?_;refine bx I F fun az I au F=>?_;refine bi I fun aA I ad=>?_;refine tr ?_;intros;refine cD (za9 ad) ?_;refine nd I F fun I F=>?_;refine nd I F fun I F=>?_;cases I;refine tr ?_
 intros;refine wn U F fun F=>?_;exact bk aj aa ();refine nd I F fun I F=>?_;refine bx I F fun aB I av F=>?_;refine nd I F fun I F=>?_;refine bx I F fun aC I aw F=>?_;refine bi I fun aD I ae=>?_;refine tr ?_;intros;refine cD (za9 ae) ?_;refine nd I F fun I F=>?_;refine nd I F fun I F=>?_;cases I;refine tr ?_;intros;refine wn U F fun F=>?_;exact bk aj aa ();cases I;refine tt ?_;exact xt aa aq ()
theorem zt1 {p:xtm} {r:Str} (h:zho p=some r):
  Pu prog 121 [.agg (xtr p)] (.one (.str r)):=by
 have F:=trivial;have R:=trivial
 refine pA func121 ?_;simp only[f121];unfold zho at h;refine bi h fun aN h aQ=>?_;refine tt ?_
 refine lX aQ (fun|(aO,an),_=>⟨[(1,.one (.ref 0 0 0 0)),(3,.one (.str aO)),(4,.one (.int .i64 (an:Int)))],[.cells 0 6 [(eP_ p)]]⟩) (fun|aN,_=>⟨[(1,.one (.ref 0 0 0 0)),(3,.one (.str aN))],[.cells 0 6 [(eP_ p)]]⟩) (fun _=>some 0) ?_ ?_
 intro i4 b4 bb;obtain rfl:=Wab bb;obtain⟨⟩:=b4;dsimp only at h|-;refine bi h fun ao h aG=>?_;refine tt ?_
 refine lX aG (fun|(aq,af),_=>⟨[(1,.one (.ref 0 0 0 0)),(3,.one (.str aq)),(5,.one (.int .i64 (af:Int)))],[.cells 0 6 [(eP_ p)]]⟩) (fun|ao,_=>⟨[(1,.one (.ref 0 0 0 0)),(3,.one (.str ao))],[.cells 0 6 [(eP_ p)]]⟩) (fun _=>some 2) ?_ ?_
 intro i13 bc aR;obtain rfl:=Wab aR;obtain⟨⟩:=bc;dsimp only at h|-;refine bi h fun ar h aH=>?_;refine tt ?_
 refine lX aH (fun|(au,ai),_=>⟨[(1,.one (.ref 0 0 0 0)),(3,.one (.str au)),(6,.one (.int .i64 (ai:Int)))],[.cells 0 6 [(eP_ p)]]⟩) (fun|ar,_=>⟨[(1,.one (.ref 0 0 0 0)),(3,.one (.str ar))],[.cells 0 6 [(eP_ p)]]⟩) (fun _=>some 4) ?_ ?_
 intro i26 bf aS;obtain rfl:=Wab aS;obtain⟨⟩:=bf;dsimp only at h|-;refine bi h fun av h aI=>?_;refine tt ?_
 refine lX aI (fun|(aw,aj),_=>⟨[(1,.one (.ref 0 0 0 0)),(3,.one (.str aw)),(8,.one (.int .i64 (aj:Int)))],[.cells 0 6 [(eP_ p)]]⟩) (fun|av,_=>⟨[(1,.one (.ref 0 0 0 0)),(3,.one (.str av))],[.cells 0 6 [(eP_ p)]]⟩) (fun _=>some 6) ?_ ?_
 intro i41 bg aT;obtain rfl:=Wab aT;obtain⟨⟩:=bg;dsimp only at h|-;refine bi h fun ax h aJ=>?_;refine tt ?_
 refine lX aJ (fun|(ay,ak),_=>⟨[(1,.one (.ref 0 0 0 0)),(3,.one (.str ay)),(9,.one (.int .i64 (ak:Int)))],[.cells 0 6 [(eP_ p)]]⟩) (fun|ax,_=>⟨[(1,.one (.ref 0 0 0 0)),(3,.one (.str ax))],[.cells 0 6 [(eP_ p)]]⟩) (fun _=>some 8) ?_ ?_
 intro i49 bh aU;obtain rfl:=Wab aU;obtain⟨⟩:=bh;dsimp only at h|-;refine bi h fun az h aK=>?_;refine tt ?_
 refine lX aK (fun|(aA,al),_=>⟨[(1,.one (.ref 0 0 0 0)),(3,.one (.str aA)),(10,.one (.int .i64 (al:Int)))],[.cells 0 6 [(eP_ p)]]⟩) (fun|az,_=>⟨[(3,.one (.str az))],[.cells 0 6 [(eP_ p)]]⟩) (fun _=>some 10) ?_ ?_
 intro i63 bj aV;obtain rfl:=Wab aV;obtain⟨⟩:=bj;dsimp only at h|-;cases h;exact fin;intro aW bX bl bm bY ab aB aX;obtain⟨aA,al⟩:=bl;obtain⟨⟩:=bm;dsimp only[zh4]at ab|-;refine tr ?_;intros;refine fl ab F ?_ ?_<;>intro ab _ F;refine bx ab F fun bK ab bA F=>?_;refine bi ab fun bL ab aL=>?_;refine tr ?_;intros;refine cD (zt2 aL) ?_;refine nd ab F fun ab F=>?_;cases ab;refine tr ?_
 intros;refine wn al F fun F=>?_;exact bk aX aB ();cases ab;refine tt ?_;exact xt aB aW ();intro aY bZ bn bo b0 U aC aZ;obtain⟨ay,ak⟩:=bn;obtain⟨⟩:=bo;dsimp only[zh5]at U|-;refine tr ?_;intros;refine fl U F ?_ ?_<;>intro U _ F;refine bx U F fun bM U bB F=>?_;refine nd U F fun U F=>?_;refine nd U F fun U F=>?_;refine nd U F fun U F=>?_;refine nd U F fun U F=>?_;refine by_ U F fun bN U bC F=>?_
 refine nd U F fun U F=>?_;refine nd U F fun U F=>?_;refine nd U F fun U F=>?_;cases U;refine tr ?_;intros;refine wn ak F fun F=>?_;exact bk aZ aC ();cases U;refine tt ?_;exact xt aC aY ();intro a5 b1 bp bq b2 ad aD a6;obtain⟨aw,aj⟩:=bp;obtain⟨⟩:=bq;dsimp only[zh6]at ad|-;refine tr ?_;intros;refine fl ad F ?_ ?_<;>intro ad _ F;refine bx ad F fun bO ad bD F=>?_;refine bi ad fun bP ad aM=>?_
 refine tr ?_;intros;refine cD (zu5 aM) ?_;refine nd ad F fun ad F=>?_;cases ad;refine tr ?_;intros;refine wn aj F fun F=>?_;exact bk a6 aD ();cases ad;refine tt ?_;exact xt aD a5 ();intro a7 b3 br bs b5 I aE a8;obtain⟨au,ai⟩:=br;obtain⟨⟩:=bs;dsimp only[zh7]at I|-;refine tr ?_;intros;refine fl I F ?_ ?_<;>intro I _ F;refine bx I F fun bQ I bE F=>?_;refine nd I F fun I F=>?_;refine nd I F fun I F=>?_
 refine by_ I F fun bR I bF F=>?_;refine nd I F fun I F=>?_;refine nd I F fun I F=>?_;refine by_ I F fun bS I bG F=>?_;refine nd I F fun I F=>?_;refine nd I F fun I F=>?_;refine nd I F fun I F=>?_;cases I;refine tr ?_;intros;refine wn ai F fun F=>?_;exact bk a8 aE ();cases I;refine tt ?_;exact xt aE a7 ();intro a9 b6 bt bu b7 aa aF ba;obtain⟨aq,af⟩:=bt;obtain⟨⟩:=bu;dsimp only[zh8]at aa|-
 refine tr ?_;intros;refine fl aa F ?_ ?_<;>intro aa _ F;refine bx aa F fun bT aa bH F=>?_;refine by_ aa F fun bU aa bI F=>?_;refine nd aa F fun aa F=>?_;refine nd aa F fun aa F=>?_;refine by_ aa F fun bV aa bJ F=>?_;refine nd aa F fun aa F=>?_;refine nd aa F fun aa F=>?_;refine nd aa F fun aa F=>?_;cases aa;refine tr ?_;intros;refine wn af F fun F=>?_;exact bk ba aF ();cases aa
 refine tt ?_;exact xt aF a9 ();intro bw m4 s4 a4 o4 ae aP bz;obtain⟨aO,an⟩:=s4;obtain⟨⟩:=a4;dsimp only[zh9]at ae|-;refine tr ?_;intros;refine fl ae F ?_ ?_<;>intro ae _ F;refine bx ae F fun b8 ae bW F=>?_;refine nd ae F fun ae F=>?_;refine nd ae F fun ae F=>?_;refine nd ae F fun ae F=>?_;cases ae;refine tr ?_;intros;refine wn an F fun F=>?_;exact bk bz aP ();cases ae;refine tt ?_
 exact xt aP bw ()
theorem zeb {p:xtm} {r:Bool} (h:zbq p=some r):
  Pu prog 82 [.agg (xtr p)] (.one (.bool r)):=by
 have F:=trivial;have R:=trivial
 refine pA func82 ?_;simp only[f82];unfold zbq at h;refine bi h fun ab h I=>?_;refine tr ?_;intros;refine cS (zss I) ?_;refine fv h F ?_ ?_<;>intro h _ F;refine bi h fun ad h U=>?_;refine tr ?_;intros;refine cS (zsr U) ?_;refine fv h F ?_ ?_<;>intro h _ F;refine bi h fun ae h aa=>?_;refine tr ?_;intros;refine cS (zt1 aa) ?_;cases h;exact fin;cases h;exact fin;cases h;exact fin
theorem zqd {U:(List xtp)->Option Int} {l:List xtp} {r:Int}
  (I:∀(x0:List xtp) (r:Int),U x0=some r->Pu prog 110 [.one (.sl (x0.map xts))] (.one (.int .i64 r))) (h:zeq U l=some r):
  Pu prog 110 [.one (.sl (l.map xts))] (.one (.int .i64 r)):=by
 have F:=trivial;have R:=trivial
 refine pA func110 ?_;simp only[f110];unfold zeq at h;refine bi h fun ae h aj=>?_;refine tt ?_
 refine lX aj (fun|(af,ab),_=>⟨[(0,.one (.sl (l.map xts))),(3,.one (.int .i64 af)),(4,.one (.int .i64 (ab:Int)))],[]⟩) (fun|ae,_=>⟨[(3,.one (.int .i64 ae))],[]⟩) (fun _=>some 0) ?_ ?_
 intro i4 b4 aq;obtain rfl:=Wab aq;obtain⟨⟩:=b4;dsimp only at h|-;cases h;exact fin;intro ar m4 s4 a4 o4 aa ad ai;obtain⟨af,ab⟩:=s4;obtain⟨⟩:=a4;dsimp only[zjg]at aa|-;refine tr ?_;intros;refine fl aa F ?_ ?_<;>intro aa _ F;refine bx aa F fun av aa au F=>?_;refine tr ?_;intros;refine fi aa F ?_ ?_<;>intro aa _ F;refine bi aa fun aw aa ak=>?_;refine tr ?_;intros;refine cD (I _ _ ak) ?_
 refine bi aa fun ax aa al=>?_;refine tr ?_;intros;refine cD (I _ _ al) ?_;cases aa;refine tr ?_;intros;refine wn ab F fun F=>?_;exact bk ai ad ();refine bi aa fun ay aa an=>?_;refine tr ?_;intros;refine cD (I _ _ an) ?_;refine bi aa fun az aa ao=>?_;refine tr ?_;intros;refine cD (I _ _ ao) ?_;cases aa;refine tr ?_;intros;refine wn ab F fun F=>?_;exact bk ai ad ();cases aa;refine tt ?_;exact xt ad ar ()
theorem zqc (n:Nat):(∀(I:List xtp) (r:Int),(zep n) I=some r->Pu prog 110 [.one (.sl (I.map xts))] (.one (.int .i64 r))):=by
 induction n with
 |zero=>exact fun _ r h=>(by cases h)
 |succ n ih=>
  have U:=ih
  exact fun _ r h=>zqd U h
theorem zse {l:List xtp} {r:Int} (h:zoo l=some r):Pu prog 110 [.one (.sl (l.map xts))] (.one (.int .i64 r)):=(zqc 1000000) _ _ h
theorem zux {l:List Int} {r:Int} (h:zis l=some r):
  Pu prog 111 [.one (.sl (l.map eI))] (.one (.int .i64 r)):=by
 have F:=trivial;have R:=trivial
 refine pA func111 ?_;simp only[f111];unfold zis at h;refine bi h fun aa h ae=>?_;refine tt ?_
 refine lX ae (fun|(ab,U),_=>⟨[(0,.one (.sl (l.map eI))),(3,.one (.int .i64 ab)),(4,.one (.int .i64 (U:Int)))],[]⟩) (fun|aa,_=>⟨[(3,.one (.int .i64 aa))],[]⟩) (fun _=>some 0) ?_ ?_
 intro i4 b4 af;obtain rfl:=Wab af;obtain⟨⟩:=b4;dsimp only at h|-;cases h;exact fin;intro ai m4 s4 a4 o4 I ad aj;obtain⟨ab,U⟩:=s4;obtain⟨⟩:=a4;dsimp only[zkv]at I|-;refine tr ?_;intros;refine fl I F ?_ ?_<;>intro I _ F;refine bx I F fun al I ak F=>?_;cases I;refine tr ?_;intros;refine wn U F fun F=>?_;exact bk aj ad ();cases I;refine tt ?_;exact xt ad ai ()
theorem zts {p:xtm} {r:Bool} (h:zhj p=some r):
  Pu prog 77 [.agg (xtr p)] (.one (.bool r)):=by
 have F:=trivial;have R:=trivial
 refine pA func77 ?_;simp only[f77];unfold zhj at h;refine bi h fun au h af=>?_;refine tr ?_;intros;refine cS (zeb af) ?_;refine fv h F ?_ ?_<;>intro h _ F;refine tr ?_;intros;refine fi h F ?_ ?_<;>intro h _ F;cases h;exact fin;refine bi h fun al h ai=>?_;refine tt ?_
 refine lX ai (fun|(ad,U),_=>⟨[(1,.one (.ref 0 0 0 0)),(3,.one (.int .i64 ad)),(4,.one (.int .i64 (U:Int)))],[.cells 0 6 [(eP_ p)]]⟩) (fun|(.inl av),_=>⟨[],[]⟩|(.inr aa),_=>⟨[(3,.one (.int .i64 aa))],[.cells 0 6 [(eP_ p)]]⟩) (fun|(.inl _)=>none|(.inr _)=>some 0) ?_ ?_
 intro i5 b5 ae
 rcases al with an|aa
 cases ae;obtain rfl:=Wab ae;obtain⟨⟩:=b5;dsimp only at h|-;cases h;exact fin;intro ao m5 s5 a5 o5 I ab aq;obtain⟨ad,U⟩:=s5;obtain⟨⟩:=a5;dsimp only[zj7]at I|-;refine tr ?_;intros;refine fl I F ?_ ?_<;>intro I _ F;refine bx I F fun aw I ar F=>?_;refine bi I fun ax I aj=>?_;refine tr ?_;intros;refine cS (zse aj) ?_;refine bi I fun ay I ak=>?_;refine tr ?_;intros;refine cS (zux ak) ?_
 refine fi I F ?_ ?_<;>intro I _ F;cases I;obtain rfl:=sr ab
 try dsimp only at h
 cases h;exact fin;cases I;refine tt ?_;refine wn U F fun F=>?_;exact bk aq ab ();cases I;refine tt ?_;exact xt ab ao ();cases h;exact fin
theorem zak {l:xtq} {a:Int} {b:Int} {r:Bool} (h:zal l a b=some r):
  Pu prog 24 [.agg (xt5 l),.one (.int .i64 a),.one (.int .i64 b)] (.one (.bool r)):=by
 have F:=trivial;have R:=trivial
 refine pA func24 ?_;simp only[f24];unfold zal at h;refine bi h fun aS h aw=>?_;refine tr ?_;intros;refine cS (zbt aw) ?_;refine fv h F ?_ ?_<;>intro h _ F;refine bi h fun aT h ax=>?_;refine tr ?_;intros;refine cS (zbt ax) ?_;refine fv h F ?_ ?_<;>intro h _ F;refine nd h F fun h F=>?_
 have R:=And.intro (show List.replicate l.Names.length [.bool false]=List.map eB (List.replicate l.Names.length false) by simp[go_sem]) R
 refine by_ h F fun aU h aM F=>?_;refine ln F fun F=>?_
 have R:=And.intro (show(List.map eB (List.replicate l.Names.length false)).set a.toNat [.bool true]=List.map eB ((List.replicate l.Names.length false).set a.toNat true) by simp[go_sem,WaL]) R
 refine bi h fun an h ay=>?_;refine tr ?_;intros
 refine lX ay (fun|(ad,al),_=>⟨[(2,.one (.int .i64 b)),(3,.one (.ref 0 0 0 0)),(7,.one (.msl 1 0 0 ad.length)),(8,.one (.bool al))],[.cells 0 2 [(eQ_ l)],.cells 0 1 (ad.map eB)]⟩) (fun|an,_=>⟨[(2,.one (.int .i64 b)),(7,.one (.msl 1 0 0 an.length))],[.cells 0 2 [(eQ_ l)],.cells 0 1 (an.map eB)]⟩) (fun _=>some 0) ?_ ?_
 intro i8 b8 aC;obtain rfl:=Wab aC;obtain⟨⟩:=b8;dsimp only at h|-;refine by_ h F fun aN h aI F=>?_;cases h;exact fin;intro aD m8 s8 a8 o8 af av aE;obtain⟨ad,al⟩:=s8;obtain⟨⟩:=a8;dsimp only[zd0]at af|-;refine fv af F ?_ ?_<;>intro af _ F;refine bi af fun az af aq=>?_;refine tt ?_
 refine lX aq (fun|(U,aj,aa),_=>⟨[(2,.one (.int .i64 b)),(3,.one (.ref 0 0 0 0)),(7,.one (.msl 1 0 0 U.length)),(8,.one (.bool aj)),(9,.one (.int .i64 (aa:Int)))],[.cells 0 2 [(eQ_ l)],.cells 0 1 (U.map eB)]⟩) (fun|(ab,ak),_=>⟨[(2,.one (.int .i64 b)),(3,.one (.ref 0 0 0 0)),(7,.one (.msl 1 0 0 ab.length)),(8,.one (.bool ak))],[.cells 0 2 [(eQ_ l)],.cells 0 1 (ab.map eB)]⟩) (fun _=>some 2) ?_ ?_
 intro i13 aF aA;obtain rfl:=Wab aA;obtain⟨ab,ak⟩:=az;obtain⟨⟩:=aF;dsimp only at af|-;cases af;refine tt ?_;exact bk aE av ();intro aB aV aG aH aW I ae ai;obtain⟨U,aj,aa⟩:=aG;obtain⟨⟩:=aH;dsimp only[zfr]at I|-;refine tr ?_;intros;refine fl I F ?_ ?_<;>intro I _ F;refine bx I F fun ao I aJ F=>?_;refine bi I fun aO I ar=>?_;refine tr ?_;intros;refine cS (zbt ar) ?_;refine fv I F ?_ ?_<;>intro I _ F
 refine bi I fun aP I au=>?_;refine tr ?_;intros;refine cS (zbt au) ?_;refine fv I F ?_ ?_<;>intro I _ F;refine by_ I F fun aQ I aK F=>?_;refine tr ?_;intros;refine fv I F ?_ ?_<;>intro I _ F;refine by_ I F fun aR I aL F=>?_;refine tr ?_;intros;refine fv I F ?_ ?_<;>intro I _ F;cases I;refine tt ?_;refine wn aa F fun F=>?_;exact bk ai ae ()
 have R:=And.intro (show(List.map eB U).set ao.a1.toNat [.bool true]=List.map eB (U.set ao.a1.toNat true) by simp[go_sem,WaL]) R
 cases I;refine tr ?_;intros;refine wn aa F fun F=>?_;exact bk ai ae ();cases I;refine tt ?_;refine wn aa F fun F=>?_;exact bk ai ae ();cases I;refine tt ?_;refine wn aa F fun F=>?_;exact bk ai ae ();cases I;refine tt ?_;refine wn aa F fun F=>?_;exact bk ai ae ();cases I;refine tt ?_;exact xt ae aB ();cases af;refine tt ?_;exact xt av aD ();cases h;exact fin;cases h;exact fin
theorem ze1 {l:xtq} {a:Int} {b:Int} {r:Int} (h:zcd l a b=some r):
  Pu prog 89 [.agg (xt5 l),.one (.int .i64 a),.one (.int .i64 b)] (.one (.int .i64 r)):=by
 have F:=trivial;have R:=trivial
 refine pA func89 ?_;simp only[f89];unfold zcd at h;refine bi h fun aI h aD=>?_;refine tt ?_
 refine lX aD (fun|ab,_=>⟨[(1,.one (.int .i64 a)),(2,.one (.int .i64 b)),(3,.one (.ref 0 0 0 0)),(7,.one (.int .i64 (ab:Int)))],[.cells 0 2 [(eQ_ l)]]⟩) (fun|(.inl aO),_=>⟨[],[]⟩|(.inr ()),_=>⟨[],[.cells 0 2 [(eQ_ l)]]⟩) (fun|(.inl _)=>none|(.inr _)=>some 0) ?_ ?_
 intro i3 b3 aA
 rcases aI with aJ|⟨⟩
 cases aA;obtain rfl:=Wab aA;obtain⟨⟩:=b3;dsimp only at h|-;cases h;exact fin;intro af3 m3 ab a3 o3 U ho3 ih3;obtain⟨⟩:=a3;dsimp only[ze2]at U|-;refine tr ?_;intros;refine fl U F ?_ ?_<;>intro U _ F;refine bi U fun aV U aE=>?_;refine tr ?_;intros;refine cS (zak aE) ?_;refine fv U F ?_ ?_<;>intro U _ F;refine bi U fun aW U aF=>?_;refine tr ?_;intros;refine cS (zak aF) ?_;refine bi U fun aB U aG=>?_
 refine tt ?_
 refine lX aG (fun|(al,af),_=>⟨[(1,.one (.int .i64 a)),(2,.one (.int .i64 b)),(3,.one (.ref 0 0 0 0)),(7,.one (.int .i64 (ab:Int))),(8,.one (.bool al)),(9,.one (.int .i64 (af:Int)))],[.cells 0 2 [(eQ_ l)]]⟩) (fun|aB,_=>⟨[(1,.one (.int .i64 a)),(2,.one (.int .i64 b)),(3,.one (.ref 0 0 0 0)),(7,.one (.int .i64 (ab:Int))),(8,.one (.bool aB))],[.cells 0 2 [(eQ_ l)]]⟩) (fun _=>some 2) ?_ ?_
 intro i9 b9 aK;obtain rfl:=Wab aK;obtain⟨⟩:=b9;dsimp only at U|-;refine fv U F ?_ ?_<;>intro U _ F;cases U;obtain rfl:=sr ho3
 try dsimp only at h
 cases h;exact fin;cases U;refine tt ?_;refine wn ab F fun F=>?_;exact bk ih3 ho3 ();intro aC m9 s9 a9 o9 aa ai an;obtain⟨al,af⟩:=s9;obtain⟨⟩:=a9;dsimp only[zdr]at aa|-;refine tr ?_;intros;refine fl aa F ?_ ?_<;>intro aa _ F;refine fv aa F ?_ ?_<;>intro aa _ F;refine bi aa fun aP aa ar=>?_;refine tr ?_;intros;refine cS (zak ar) ?_;refine fv aa F ?_ ?_<;>intro aa _ F;refine bi aa fun aQ aa au=>?_
 refine tr ?_;intros;refine cS (zak au) ?_;refine fv aa F ?_ ?_<;>intro aa _ F;refine bi aa fun aR aa av=>?_;refine tr ?_;intros;refine cS (zak av) ?_;cases aa;refine tt ?_;refine wn af F fun F=>?_;exact bk an ai ();cases aa;refine tt ?_;refine wn af F fun F=>?_;exact bk an ai ();cases aa;refine tt ?_;refine wn af F fun F=>?_;exact bk an ai ();cases aa;refine tt ?_;exact xt ai aC ();cases aa
 refine tt ?_;exact xt ai aC ();refine bi U fun ao U aw=>?_;refine tt ?_
 refine lX aw (fun|(ak,ad),_=>⟨[(1,.one (.int .i64 a)),(2,.one (.int .i64 b)),(3,.one (.ref 0 0 0 0)),(7,.one (.int .i64 (ab:Int))),(8,.one (.bool ak)),(9,.one (.int .i64 (ad:Int)))],[.cells 0 2 [(eQ_ l)]]⟩) (fun|ao,_=>⟨[(1,.one (.int .i64 a)),(2,.one (.int .i64 b)),(3,.one (.ref 0 0 0 0)),(7,.one (.int .i64 (ab:Int))),(8,.one (.bool ao))],[.cells 0 2 [(eQ_ l)]]⟩) (fun _=>some 2) ?_ ?_
 intro i17 aL aH;obtain rfl:=Wab aH;obtain⟨⟩:=aL;dsimp only at U|-;refine fv U F ?_ ?_<;>intro U _ F;cases U;obtain rfl:=sr ho3
 try dsimp only at h
 cases h;exact fin;cases U;refine tt ?_;refine wn ab F fun F=>?_;exact bk ih3 ho3 ();intro aq aX aM aN aY I ae aj;obtain⟨ak,ad⟩:=aM;obtain⟨⟩:=aN;dsimp only[zdq]at I|-;refine tr ?_;intros;refine fl I F ?_ ?_<;>intro I _ F;refine fv I F ?_ ?_<;>intro I _ F;refine bi I fun aS I ax=>?_;refine tr ?_;intros;refine cS (zak ax) ?_;refine fv I F ?_ ?_<;>intro I _ F;refine bi I fun aT I ay=>?_
 refine tr ?_;intros;refine cS (zak ay) ?_;refine fv I F ?_ ?_<;>intro I _ F;refine bi I fun aU I az=>?_;refine tr ?_;intros;refine cS (zak az) ?_;cases I;refine tt ?_;refine wn ad F fun F=>?_;exact bk aj ae ();cases I;refine tt ?_;refine wn ad F fun F=>?_;exact bk aj ae ();cases I;refine tt ?_;refine wn ad F fun F=>?_;exact bk aj ae ();cases I;refine tt ?_;exact xt ae aq ();cases I;refine tt ?_
 exact xt ae aq ();cases U;refine tt ?_;exact xt ho3 af3 ()
theorem zng {l:xtq} {a:Int} {b:Int} {r:Int} (h:ze8 l a b=some r):
  Pu prog 112 [.agg (xt5 l),.one (.int .i64 a),.one (.int .i64 b)] (.one (.int .i64 r)):=by
 have F:=trivial;have R:=trivial
 refine pA func112 ?_;simp only[f112];unfold ze8 at h;refine bi h fun aI h aD=>?_;refine tt ?_
 refine lX aD (fun|ab,_=>⟨[(1,.one (.int .i64 a)),(2,.one (.int .i64 b)),(3,.one (.ref 0 0 0 0)),(7,.one (.int .i64 (ab:Int)))],[.cells 0 2 [(eQ_ l)]]⟩) (fun|(.inl aO),_=>⟨[],[]⟩|(.inr ()),_=>⟨[],[.cells 0 2 [(eQ_ l)]]⟩) (fun|(.inl _)=>none|(.inr _)=>some 0) ?_ ?_
 intro i3 b3 aA
 rcases aI with aJ|⟨⟩
 cases aA;obtain rfl:=Wab aA;obtain⟨⟩:=b3;dsimp only at h|-;cases h;exact fin;intro af3 m3 ab a3 o3 U ho3 ih3;obtain⟨⟩:=a3;dsimp only[ze0]at U|-;refine tr ?_;intros;refine fl U F ?_ ?_<;>intro U _ F;refine bi U fun aV U aE=>?_;refine tr ?_;intros;refine cS (zak aE) ?_;refine fv U F ?_ ?_<;>intro U _ F;refine bi U fun aW U aF=>?_;refine tr ?_;intros;refine cS (zak aF) ?_;refine bi U fun aB U aG=>?_
 refine tt ?_
 refine lX aG (fun|(al,af),_=>⟨[(1,.one (.int .i64 a)),(2,.one (.int .i64 b)),(3,.one (.ref 0 0 0 0)),(7,.one (.int .i64 (ab:Int))),(8,.one (.bool al)),(9,.one (.int .i64 (af:Int)))],[.cells 0 2 [(eQ_ l)]]⟩) (fun|aB,_=>⟨[(1,.one (.int .i64 a)),(2,.one (.int .i64 b)),(3,.one (.ref 0 0 0 0)),(7,.one (.int .i64 (ab:Int))),(8,.one (.bool aB))],[.cells 0 2 [(eQ_ l)]]⟩) (fun _=>some 2) ?_ ?_
 intro i9 b9 aK;obtain rfl:=Wab aK;obtain⟨⟩:=b9;dsimp only at U|-;refine fv U F ?_ ?_<;>intro U _ F;cases U;obtain rfl:=sr ho3
 try dsimp only at h
 cases h;exact fin;cases U;refine tt ?_;refine wn ab F fun F=>?_;exact bk ih3 ho3 ();intro aC m9 s9 a9 o9 aa ai an;obtain⟨al,af⟩:=s9;obtain⟨⟩:=a9;dsimp only[zdp]at aa|-;refine tr ?_;intros;refine fl aa F ?_ ?_<;>intro aa _ F;refine fv aa F ?_ ?_<;>intro aa _ F;refine bi aa fun aP aa ar=>?_;refine tr ?_;intros;refine cS (zak ar) ?_;refine fv aa F ?_ ?_<;>intro aa _ F;refine bi aa fun aQ aa au=>?_
 refine tr ?_;intros;refine cS (zak au) ?_;refine fv aa F ?_ ?_<;>intro aa _ F;refine bi aa fun aR aa av=>?_;refine tr ?_;intros;refine cS (zak av) ?_;cases aa;refine tt ?_;refine wn af F fun F=>?_;exact bk an ai ();cases aa;refine tt ?_;refine wn af F fun F=>?_;exact bk an ai ();cases aa;refine tt ?_;refine wn af F fun F=>?_;exact bk an ai ();cases aa;refine tt ?_;exact xt ai aC ();cases aa
 refine tt ?_;exact xt ai aC ();refine bi U fun ao U aw=>?_;refine tt ?_
 refine lX aw (fun|(ak,ad),_=>⟨[(1,.one (.int .i64 a)),(2,.one (.int .i64 b)),(3,.one (.ref 0 0 0 0)),(7,.one (.int .i64 (ab:Int))),(8,.one (.bool ak)),(9,.one (.int .i64 (ad:Int)))],[.cells 0 2 [(eQ_ l)]]⟩) (fun|ao,_=>⟨[(1,.one (.int .i64 a)),(2,.one (.int .i64 b)),(3,.one (.ref 0 0 0 0)),(7,.one (.int .i64 (ab:Int))),(8,.one (.bool ao))],[.cells 0 2 [(eQ_ l)]]⟩) (fun _=>some 2) ?_ ?_
 intro i17 aL aH;obtain rfl:=Wab aH;obtain⟨⟩:=aL;dsimp only at U|-;refine fv U F ?_ ?_<;>intro U _ F;cases U;obtain rfl:=sr ho3
 try dsimp only at h
 cases h;exact fin;cases U;refine tt ?_;refine wn ab F fun F=>?_;exact bk ih3 ho3 ();intro aq aX aM aN aY I ae aj;obtain⟨ak,ad⟩:=aM;obtain⟨⟩:=aN;dsimp only[zdo]at I|-;refine tr ?_;intros;refine fl I F ?_ ?_<;>intro I _ F;refine fv I F ?_ ?_<;>intro I _ F;refine bi I fun aS I ax=>?_;refine tr ?_;intros;refine cS (zak ax) ?_;refine fv I F ?_ ?_<;>intro I _ F;refine bi I fun aT I ay=>?_
 refine tr ?_;intros;refine cS (zak ay) ?_;refine fv I F ?_ ?_<;>intro I _ F;refine bi I fun aU I az=>?_;refine tr ?_;intros;refine cS (zak az) ?_;cases I;refine tt ?_;refine wn ad F fun F=>?_;exact bk aj ae ();cases I;refine tt ?_;refine wn ad F fun F=>?_;exact bk aj ae ();cases I;refine tt ?_;refine wn ad F fun F=>?_;exact bk aj ae ();cases I;refine tt ?_;exact xt ae aq ();cases I;refine tt ?_
 exact xt ae aq ();cases U;refine tt ?_;exact xt ho3 af3 ()
theorem zs2 {l:xtq} {r:Int} (h:zgn l=some r):
  Pu prog 78 [.agg (xt5 l)] (.one (.int .i64 r)):=by
 have F:=trivial;have R:=trivial
 refine pA func78 ?_;simp only[f78];unfold zgn at h;refine tr ?_;intros;refine fi h F ?_ ?_<;>intro h _ F;cases h;exact fin;refine fi h F ?_ ?_<;>intro h _ F;cases h;exact fin;refine bi h fun aH h az=>?_;refine tt ?_
 refine lX az (fun|aj,_=>⟨[(1,.one (.ref 0 0 0 0)),(3,.one (.int .i64 (l.Names.length:Int))),(4,.one (.int .i64 (aj:Int)))],[.cells 0 2 [(eQ_ l)]]⟩) (fun|(.inl a4),_=>⟨[],[]⟩|(.inr ()),_=>⟨[(1,.one (.ref 0 0 0 0)),(3,.one (.int .i64 (l.Names.length:Int)))],[.cells 0 2 [(eQ_ l)]]⟩) (fun|(.inl _)=>none|(.inr _)=>some 0) ?_ ?_
 intro i3 b3 ay
 rcases aH with af|⟨⟩
 cases ay;obtain rfl:=Wab ay;obtain⟨⟩:=b3;dsimp only at h|-;refine bi h fun aI h aA=>?_;refine tt ?_
 refine lX aA (fun|ai,_=>⟨[(1,.one (.ref 0 0 0 0)),(3,.one (.int .i64 (l.Names.length:Int))),(5,.one (.int .i64 (ai:Int)))],[.cells 0 2 [(eQ_ l)]]⟩) (fun|(.inl aP),_=>⟨[],[]⟩|(.inr ()),_=>⟨[],[.cells 0 2 [(eQ_ l)]]⟩) (fun|(.inl _)=>none|(.inr _)=>some 2) ?_ ?_
 intro i10 aJ ak
 rcases aI with af|⟨⟩
 cases ak;obtain rfl:=Wab ak;obtain⟨⟩:=aJ;dsimp only at h|-;cases h;exact fin;intro aB a5 ai aK a6 U ab aC;obtain⟨⟩:=aK;dsimp only[zee]at U|-;refine fl U F ?_ ?_<;>intro U _ F;refine bx U F fun aQ U aN F=>?_;refine tr ?_;intros;refine fi U F ?_ ?_<;>intro U _ F;cases U;obtain rfl:=sr ab
 try dsimp only at h
 cases h;exact fin;refine bi U fun aD U ao=>?_;refine tt ?_
 refine lX ao (fun|ae,_=>⟨[(1,.one (.ref 0 0 0 0)),(3,.one (.int .i64 (l.Names.length:Int))),(5,.one (.int .i64 (ai:Int))),(6,.one (.int .i64 (ae:Int)))],[.cells 0 2 [(eQ_ l)]]⟩) (fun|(.inl aR),_=>⟨[],[]⟩|(.inr ()),_=>⟨[(1,.one (.ref 0 0 0 0)),(3,.one (.int .i64 (l.Names.length:Int))),(5,.one (.int .i64 (ai:Int)))],[.cells 0 2 [(eQ_ l)]]⟩) (fun|(.inl _)=>none|(.inr _)=>some 4) ?_ ?_
 intro i14 aL al
 rcases aD with af|⟨⟩
 cases al;obtain rfl:=Wab al;obtain⟨⟩:=aL;dsimp only at U|-;cases U;refine tt ?_;refine wn ai F fun F=>?_;exact bk aC ab ();intro aE a7 ae aM a8 I ad an;obtain⟨⟩:=aM;dsimp only[zc8]at I|-;refine fl I F ?_ ?_<;>intro I _ F;refine bx I F fun aS I aO F=>?_;refine tr ?_;intros;refine fi I F ?_ ?_<;>intro I _ F;cases I;obtain rfl:=sr ad
 try dsimp only at U
 cases U;obtain rfl:=sr ab
 try dsimp only at h
 cases h;exact fin;refine bi I fun aT I aq=>?_;refine tr ?_;intros;refine cD (zak aq) ?_;refine tr ?_;intros;refine fv I F ?_ ?_<;>intro I _ F;refine bi I fun aU I ar=>?_;refine tr ?_;intros;refine cD (zak ar) ?_;refine tr ?_;intros;refine fv I F ?_ ?_<;>intro I _ F;cases I;obtain rfl:=sr ad
 try dsimp only at U
 cases U;obtain rfl:=sr ab
 try dsimp only at h
 cases h;exact fin;refine bi I fun aV I au=>?_;refine tr ?_;intros;refine cD (ze1 au) ?_;refine tr ?_;intros;refine fi I F ?_ ?_<;>intro I _ F;cases I;obtain rfl:=sr ad
 try dsimp only at U
 cases U;obtain rfl:=sr ab
 try dsimp only at h
 cases h;exact fin;refine bi I fun aW I av=>?_;refine tr ?_;intros;refine cD (zng av) ?_;refine tr ?_;intros;refine fi I F ?_ ?_<;>intro I _ F;cases I;obtain rfl:=sr ad
 try dsimp only at U
 cases U;obtain rfl:=sr ab
 try dsimp only at h
 cases h;exact fin;cases I;refine tt ?_;refine wn ae F fun F=>?_;exact bk an ad ();refine bi I fun aX I aw=>?_;refine tr ?_;intros;refine cD (ze1 aw) ?_;refine tr ?_;intros;refine fi I F ?_ ?_<;>intro I _ F;cases I;obtain rfl:=sr ad
 try dsimp only at U
 cases U;obtain rfl:=sr ab
 try dsimp only at h
 cases h;exact fin;refine bi I fun aY I ax=>?_;refine tr ?_;intros;refine cD (zng ax) ?_;refine tr ?_;intros;refine fi I F ?_ ?_<;>intro I _ F;cases I;obtain rfl:=sr ad
 try dsimp only at U
 cases U;obtain rfl:=sr ab
 try dsimp only at h
 cases h;exact fin;cases I;refine tt ?_;refine wn ae F fun F=>?_;exact bk an ad ();cases I;refine tt ?_;exact xt ad aE ();cases U;refine tt ?_;exact xt ab aB ();intro af3 m3 aj a3 o3 aa ho3 ih3;obtain⟨⟩:=a3;dsimp only[zef]at aa|-;refine tr ?_;intros;refine fl aa F ?_ ?_<;>intro aa _ F;refine bx aa F fun a9 aa aZ F=>?_;refine bi aa fun ba aa aF=>?_;refine tr ?_;intros;refine cD (zbt aF) ?_
 refine tr ?_;intros;refine fv aa F ?_ ?_<;>intro aa _ F;refine bi aa fun bb aa aG=>?_;refine tr ?_;intros;refine cD (zbt aG) ?_;refine tr ?_;intros;refine fv aa F ?_ ?_<;>intro aa _ F;cases aa;refine tt ?_;refine wn aj F fun F=>?_;exact bk ih3 ho3 ();cases aa;obtain rfl:=sr ho3
 try dsimp only at h
 cases h;exact fin;cases aa;obtain rfl:=sr ho3
 try dsimp only at h
 cases h;exact fin;cases aa;refine tt ?_;exact xt ho3 af3 ()
theorem za1 {p:xtm} {name:Str} {r:Int} (h:za0 p name=some r):
  Pu prog 44 [.agg (xtr p),.one (.str name)] (.one (.int .i64 r)):=by
 have F:=trivial;have R:=trivial
 refine pA func44 ?_;simp only[f44];unfold za0 at h;refine bi h fun ad h ab=>?_;refine tt ?_
 refine lX ab (fun|U,_=>⟨[(1,.one (.str name)),(2,.one (.ref 0 0 0 0)),(5,.one (.int .i64 (U:Int)))],[.cells 0 6 [(eP_ p)]]⟩) (fun|(.inl ai),_=>⟨[],[]⟩|(.inr ()),_=>⟨[],[.cells 0 6 [(eP_ p)]]⟩) (fun|(.inl _)=>none|(.inr _)=>some 0) ?_ ?_
 intro i3 b3 aa
 rcases ad with ae|⟨⟩
 cases aa;obtain rfl:=Wab aa;obtain⟨⟩:=b3;dsimp only at h|-;cases h;exact fin;intro af3 m3 U a3 o3 I ho3 ih3;obtain⟨⟩:=a3;dsimp only[ziv]at I|-;refine tr ?_;intros;refine fl I F ?_ ?_<;>intro I _ F;refine bx I F fun aj I af F=>?_;refine tr ?_;intros;refine fi I F ?_ ?_<;>intro I _ F;cases I;obtain rfl:=sr ho3
 try dsimp only at h
 cases h;exact fin;cases I;refine tt ?_;refine wn U F fun F=>?_;exact bk ih3 ho3 ();cases I;refine tt ?_;exact xt ho3 af3 ()
theorem zcb {p:xtm} {name:Str} {r:Int} (h:zbp p name=some r):
  Pu prog 45 [.agg (xtr p),.one (.str name)] (.one (.int .i64 r)):=by
 have F:=trivial;have R:=trivial
 refine pA func45 ?_;simp only[f45];unfold zbp at h;refine bi h fun ad h ab=>?_;refine tt ?_
 refine lX ab (fun|U,_=>⟨[(1,.one (.str name)),(2,.one (.ref 0 0 0 0)),(5,.one (.int .i64 (U:Int)))],[.cells 0 6 [(eP_ p)]]⟩) (fun|(.inl ai),_=>⟨[],[]⟩|(.inr ()),_=>⟨[],[.cells 0 6 [(eP_ p)]]⟩) (fun|(.inl _)=>none|(.inr _)=>some 0) ?_ ?_
 intro i3 b3 aa
 rcases ad with ae|⟨⟩
 cases aa;obtain rfl:=Wab aa;obtain⟨⟩:=b3;dsimp only at h|-;cases h;exact fin;intro af3 m3 U a3 o3 I ho3 ih3;obtain⟨⟩:=a3;dsimp only[zg0]at I|-;refine tr ?_;intros;refine fl I F ?_ ?_<;>intro I _ F;refine bx I F fun aj I af F=>?_;refine tr ?_;intros;refine fi I F ?_ ?_<;>intro I _ F;cases I;obtain rfl:=sr ho3
 try dsimp only at h
 cases h;exact fin;cases I;refine tt ?_;refine wn U F fun F=>?_;exact bk ih3 ho3 ();cases I;refine tt ?_;exact xt ho3 af3 ()
theorem zex {p:xtm} {name:Str} {r:Int} (h:zcv p name=some r):
  Pu prog 47 [.agg (xtr p),.one (.str name)] (.one (.int .i64 r)):=by
 have F:=trivial;have R:=trivial
 refine pA func47 ?_;simp only[f47];unfold zcv at h;refine bi h fun ad h ab=>?_;refine tt ?_
 refine lX ab (fun|U,_=>⟨[(1,.one (.str name)),(2,.one (.ref 0 0 0 0)),(5,.one (.int .i64 (U:Int)))],[.cells 0 6 [(eP_ p)]]⟩) (fun|(.inl ai),_=>⟨[],[]⟩|(.inr ()),_=>⟨[],[.cells 0 6 [(eP_ p)]]⟩) (fun|(.inl _)=>none|(.inr _)=>some 0) ?_ ?_
 intro i3 b3 aa
 rcases ad with ae|⟨⟩
 cases aa;obtain rfl:=Wab aa;obtain⟨⟩:=b3;dsimp only at h|-;cases h;exact fin;intro af3 m3 U a3 o3 I ho3 ih3;obtain⟨⟩:=a3;dsimp only[zh3]at I|-;refine tr ?_;intros;refine fl I F ?_ ?_<;>intro I _ F;refine bx I F fun aj I af F=>?_;refine tr ?_;intros;refine fi I F ?_ ?_<;>intro I _ F;cases I;obtain rfl:=sr ho3
 try dsimp only at h
 cases h;exact fin;cases I;refine tt ?_;refine wn U F fun F=>?_;exact bk ih3 ho3 ();cases I;refine tt ?_;exact xt ho3 af3 ()
theorem zrd {aa:xtm->xtn->Option Bool} {U:xtm->(List xtn)->Option Bool} {p:xtm} {e:xtn} {r:Bool}
  (ab:∀(x0:xtm) (x1:xtn) (r:Bool),aa x0 x1=some r->Pu prog 150 [.agg (xtr x0),.agg (xto x1)] (.one (.bool r)))
  (I:∀(x0:xtm) (x1:List xtn) (r:Bool),U x0 x1=some r->Pu prog 151 [.agg (xtr x0),.one (.sl (x1.map xto))] (.one (.bool r))) (h:zfi aa U p e=some r):
  Pu prog 150 [.agg (xtr p),.agg (xto e)] (.one (.bool r)):=by
 have F:=trivial;have R:=trivial
 refine pA func150 ?_;simp only[f150];unfold zfi at h;refine tt ?_;refine fi h F ?_ ?_<;>intro h _ F;refine bi h fun aq h ad=>?_;refine tr ?_;intros;refine cS (za1 ad) ?_;refine fi h F ?_ ?_<;>intro h _ F;cases h;exact fin;refine bi h fun ar h ae=>?_;refine tr ?_;intros;refine cS (I _ _ _ ae) ?_;cases h;exact fin;refine fi h F ?_ ?_<;>intro h _ F;refine bi h fun au h af=>?_;refine tr ?_
 intros;refine cS (za1 af) ?_;refine fi h F ?_ ?_<;>intro h _ F;cases h;exact fin;refine bi h fun av h ai=>?_;refine tr ?_;intros;refine cS (I _ _ _ ai) ?_;cases h;exact fin;refine fi h F ?_ ?_<;>intro h _ F;refine bi h fun aw h aj=>?_;refine tr ?_;intros;refine cS (zcb aj) ?_;refine fi h F ?_ ?_<;>intro h _ F;cases h;exact fin;refine bi h fun ax h ak=>?_;refine tr ?_;intros;refine cS (I _ _ _ ak) ?_
 cases h;exact fin;refine fi h F ?_ ?_<;>intro h _ F;refine bi h fun ay h al=>?_;refine tr ?_;intros;refine cS (zex al) ?_;refine fi h F ?_ ?_<;>intro h _ F;cases h;exact fin;refine bi h fun az h an=>?_;refine tr ?_;intros;refine cS (I _ _ _ an) ?_;cases h;exact fin;refine bi h fun aA h ao=>?_;refine tr ?_;intros;refine cS (I _ _ _ ao) ?_;cases h;exact fin
theorem zqk {U:xtm->xtn->Option Bool} {I:xtm->(List xtn)->Option Bool} {p:xtm} {l:List xtn} {r:Bool}
  (aa:∀(x0:xtm) (x1:xtn) (r:Bool),U x0 x1=some r->Pu prog 150 [.agg (xtr x0),.agg (xto x1)] (.one (.bool r)))
  (ad:∀(x0:xtm) (x1:List xtn) (r:Bool),I x0 x1=some r->Pu prog 151 [.agg (xtr x0),.one (.sl (x1.map xto))] (.one (.bool r))) (h:zeu U I p l=some r):
  Pu prog 151 [.agg (xtr p),.one (.sl (l.map xto))] (.one (.bool r)):=by
 have F:=trivial;have R:=trivial
 refine pA func151 ?_;simp only[f151];unfold zeu at h;refine bi h fun ak h ai=>?_;refine tt ?_
 refine lX ai (fun|ae,_=>⟨[(1,.one (.sl (l.map xto))),(2,.one (.ref 0 0 0 0)),(5,.one (.int .i64 (ae:Int)))],[.cells 0 6 [(eP_ p)]]⟩) (fun|(.inl ao),_=>⟨[],[]⟩|(.inr ()),_=>⟨[],[.cells 0 6 [(eP_ p)]]⟩) (fun|(.inl _)=>none|(.inr _)=>some 0) ?_ ?_
 intro i3 b3 af
 rcases ak with al|⟨⟩
 cases af;obtain rfl:=Wab af;obtain⟨⟩:=b3;dsimp only at h|-;cases h;exact fin;intro af3 m3 ae a3 o3 ab ho3 ih3;obtain⟨⟩:=a3;dsimp only[zgu]at ab|-;refine tr ?_;intros;refine fl ab F ?_ ?_<;>intro ab _ F;refine bx ab F fun aq ab an F=>?_;refine bi ab fun ar ab aj=>?_;refine tr ?_;intros;refine cD (aa _ _ _ aj) ?_;refine tr ?_;intros;refine fv ab F ?_ ?_<;>intro ab _ F;cases ab;refine tt ?_
 refine wn ae F fun F=>?_;exact bk ih3 ho3 ();cases ab;obtain rfl:=sr ho3
 try dsimp only at h
 cases h;exact fin;cases ab;refine tt ?_;exact xt ho3 af3 ()
theorem zma (n:Nat):(∀(I:xtm) (U:xtn) (r:Bool),(zau n).1 I U=some r->Pu prog 150 [.agg (xtr I),.agg (xto U)] (.one (.bool r)))/\(∀(I:xtm) (U:List xtn) (r:Bool),(zau n).2 I U=some r->Pu prog 151 [.agg (xtr I),.one (.sl (U.map xto))] (.one (.bool r))):=by
 induction n with
 |zero=>exact⟨fun _ _ r h=>(by cases h),fun _ _ r h=>(by cases h)⟩
 |succ n ih=>
  obtain⟨aa,ih1⟩:=ih;exact⟨fun _ _ r h=>zrd aa ih1 h,fun _ _ r h=>zqk aa ih1 h⟩
theorem zdk {p:xtm} {e:xtn} {r:Bool} (h:zcu p e=some r):Pu prog 150 [.agg (xtr p),.agg (xto e)] (.one (.bool r)):=(zma 1000000).1 _ _ _ h
theorem zjr {p:xtm} {l:List xtn} {r:Bool} (h:zgc p l=some r):Pu prog 151 [.agg (xtr p),.one (.sl (l.map xto))] (.one (.bool r)):=(zma 1000000).2 _ _ _ h
theorem zqm {aa:xtm->(List xtp)->Option Bool} {p:xtm} {l:List xtp} {r:Bool}
  (U:∀(x0:xtm) (x1:List xtp) (r:Bool),aa x0 x1=some r->Pu prog 113 [.agg (xtr x0),.one (.sl (x1.map xts))] (.one (.bool r))) (h:zew aa p l=some r):
  Pu prog 113 [.agg (xtr p),.one (.sl (l.map xts))] (.one (.bool r)):=by
 have F:=trivial;have R:=trivial
 refine pA func113 ?_;simp only[f113];unfold zew at h;refine bi h fun aC h aw=>?_;refine tt ?_
 refine lX aw (fun|ab,_=>⟨[(1,.one (.sl (l.map xts))),(2,.one (.ref 0 0 0 0)),(5,.one (.int .i64 (ab:Int)))],[.cells 0 6 [(eP_ p)]]⟩) (fun|(.inl aE),_=>⟨[],[]⟩|(.inr ()),_=>⟨[],[.cells 0 6 [(eP_ p)]]⟩) (fun|(.inl _)=>none|(.inr _)=>some 0) ?_ ?_
 intro i3 b3 av
 rcases aC with aD|⟨⟩
 cases av;obtain rfl:=Wab av;obtain⟨⟩:=b3;dsimp only at h|-;cases h;exact fin;intro af3 m3 ab a3 o3 I ho3 ih3;obtain⟨⟩:=a3;dsimp only[zgv]at I|-;refine tr ?_;intros;refine fl I F ?_ ?_<;>intro I _ F;refine bx I F fun aS I aF F=>?_;refine tr ?_;intros;refine fi I F ?_ ?_<;>intro I _ F;refine bi I fun aT I ax=>?_;refine tr ?_;intros;refine cS (za1 ax) ?_;refine fi I F ?_ ?_<;>intro I _ F
 cases I;obtain rfl:=sr ho3
 try dsimp only at h
 cases h;exact fin;refine tt ?_;refine fi I F ?_ ?_<;>intro I _ F;exact(by omega:False).elim;refine bi I fun aU I ay=>?_;refine tr ?_;intros;refine cS (zdk ay) ?_;refine fv I F ?_ ?_<;>intro I _ F;refine bi I fun aV I az=>?_;refine tr ?_;intros;refine cS (zdk az) ?_;refine fv I F ?_ ?_<;>intro I _ F;refine bi I fun aW I aA=>?_;refine tr ?_;intros;refine cS (zjr aA) ?_;refine fv I F ?_ ?_<;>intro I _ F
 refine bi I fun aX I aB=>?_;refine tr ?_;intros;refine cS (U _ _ _ aB) ?_;refine fv I F ?_ ?_<;>intro I _ F;refine bi I fun aG I ad=>?_;refine tr ?_;intros;refine cS (U _ _ _ ad) ?_;refine fv I F ?_ ?_<;>intro I _ F;cases I;refine tt ?_;refine wn ab F fun F=>?_;exact bk ih3 ho3 ();cases I;obtain rfl:=sr ho3
 try dsimp only at h
 cases h;exact fin;cases I;obtain rfl:=sr ho3
 try dsimp only at h
 cases h;exact fin;cases I;obtain rfl:=sr ho3
 try dsimp only at h
 cases h;exact fin;cases I;obtain rfl:=sr ho3
 try dsimp only at h
 cases h;exact fin;cases I;obtain rfl:=sr ho3
 try dsimp only at h
 cases h;exact fin;refine fi I F ?_ ?_<;>intro I _ F;refine bi I fun aH I ae=>?_;refine tr ?_;intros;refine cS (zcb ae) ?_;refine fi I F ?_ ?_<;>intro I _ F;cases I;obtain rfl:=sr ho3
 try dsimp only at h
 cases h;exact fin;refine bi I fun aI I af=>?_;refine tr ?_;intros;refine cS (zdk af) ?_;refine fv I F ?_ ?_<;>intro I _ F;refine bi I fun aJ I ai=>?_;refine tr ?_;intros;refine cS (zdk ai) ?_;refine fv I F ?_ ?_<;>intro I _ F;refine bi I fun aK I aj=>?_;refine tr ?_;intros;refine cS (zjr aj) ?_;refine fv I F ?_ ?_<;>intro I _ F;refine bi I fun aL I ak=>?_;refine tr ?_;intros;refine cS (U _ _ _ ak) ?_
 refine fv I F ?_ ?_<;>intro I _ F;refine bi I fun aM I al=>?_;refine tr ?_;intros;refine cS (U _ _ _ al) ?_;refine fv I F ?_ ?_<;>intro I _ F;cases I;refine tt ?_;refine wn ab F fun F=>?_;exact bk ih3 ho3 ();cases I;obtain rfl:=sr ho3
 try dsimp only at h
 cases h;exact fin;cases I;obtain rfl:=sr ho3
 try dsimp only at h
 cases h;exact fin;cases I;obtain rfl:=sr ho3
 try dsimp only at h
 cases h;exact fin;cases I;obtain rfl:=sr ho3
 try dsimp only at h
 cases h;exact fin;cases I;obtain rfl:=sr ho3
 try dsimp only at h
 cases h;exact fin;refine bi I fun aN I an=>?_;refine tr ?_;intros;refine cS (zdk an) ?_;refine fv I F ?_ ?_<;>intro I _ F;refine bi I fun aO I ao=>?_;refine tr ?_;intros;refine cS (zdk ao) ?_;refine fv I F ?_ ?_<;>intro I _ F;refine bi I fun aP I aq=>?_;refine tr ?_;intros;refine cS (zjr aq) ?_;refine fv I F ?_ ?_<;>intro I _ F;refine bi I fun aQ I ar=>?_;refine tr ?_;intros;refine cS (U _ _ _ ar) ?_
 refine fv I F ?_ ?_<;>intro I _ F;refine bi I fun aR I au=>?_;refine tr ?_;intros;refine cS (U _ _ _ au) ?_;refine fv I F ?_ ?_<;>intro I _ F;cases I;refine tt ?_;refine wn ab F fun F=>?_;exact bk ih3 ho3 ();cases I;obtain rfl:=sr ho3
 try dsimp only at h
 cases h;exact fin;cases I;obtain rfl:=sr ho3
 try dsimp only at h
 cases h;exact fin;cases I;obtain rfl:=sr ho3
 try dsimp only at h
 cases h;exact fin;cases I;obtain rfl:=sr ho3
 try dsimp only at h
 cases h;exact fin;cases I;obtain rfl:=sr ho3
 try dsimp only at h
 cases h;exact fin;cases I;refine tt ?_;exact xt ho3 af3 ()
theorem zql (n:Nat):(∀(I:xtm) (U:List xtp) (r:Bool),(zev n) I U=some r->Pu prog 113 [.agg (xtr I),.one (.sl (U.map xts))] (.one (.bool r))):=by
 induction n with
 |zero=>exact fun _ _ r h=>(by cases h)
 |succ n ih=>
  have aa:=ih
  exact fun _ _ r h=>zqm aa h
theorem zsp {p:xtm} {l:List xtp} {r:Bool} (h:zlk p l=some r):Pu prog 113 [.agg (xtr p),.one (.sl (l.map xts))] (.one (.bool r)):=(zql 1000000) _ _ _ h
end Go.Lz

end
