/- The parts of a proof: V140 -/
import Derived.Test.YtcceddpmmgabjaaGreatQv4
set_option linter.unusedVariables false
set_option linter.unusedSimpArgs false
section
namespace Go.Lz
open Go.Proofs
attribute [-go_sem] zmz g_b gd_b
set_option maxRecDepth 100000
set_option maxHeartbeats 4000000
noncomputable section
def zdu (I:xrx->Int->Int->Option Int) (e:xrx) (deep:Int):(Int×Nat)->Option ((Int×Nat)⊕(Int))
 |(U,aa)=>if(aa:Int)<(e.Args.length:Int)then(if 0<=U then((e.Args[aa]?).bind fun ab=>(I ab (w64 (deep-1)) U).bind fun ad=>some (.inl (ad,(aa+1))))else(some (.inr (U))))else(some (.inr (U)))
def zf0 (I:xrx->Int->Int->Option Int) (e:xrx) (deep:Int) (left:Int):Option Int:=
 if deep<1 then(some (-1))else(if(w64 (left-(w64 ((w64 (1+(e.Args.length:Int)))+(w64 ((e.Name.length:Int).tdiv 100))))))<0 then(some (-1))else((loop (zdu I e deep) ((w64 (left-(w64 ((w64 (1+(e.Args.length:Int)))+(w64 ((e.Name.length:Int).tdiv 100)))))),0)).bind (fun U=>some U)))
def zc1:Nat->(xrx->Int->Int->Option Int)
 |0=>fun _ _ _=>none
 |n+1=>zf0 (zc1 n)
def zuw (n:Nat) (e:xrx) (deep:Int) (left:Int):Option Int:=(zc1 n) e deep left
def zc4 (e:xrx) (deep:Int) (left:Int):Option Int:=zuw 1000000 e deep left
def zj9 (I:(List xry)->Int->Int->Option Int) (l:List xry) (deep:Int):(Int×Nat)->Option ((Int×Nat)⊕(Int))
 |(U,aa)=>if(aa:Int)<(l.length:Int)then(if 0<=U then((l[aa]?).bind fun ab=>(zc4 ab.Target 60 (w64 (U-(w64 ((ab.Name.length:Int).tdiv 100))))).bind fun ad=>if 0<=ad then((zc4 ab.Value 60 ad).bind fun ae=>if 0<=ae then((zc4 (⟨0,0,0,[],ab.Args⟩:xrx) 60 ae).bind fun af=>if 0<=af then((I ab.Body (w64 (deep-1)) af).bind fun ai=>if 0<=ai then((I ab.Else (w64 (deep-1)) ai).bind fun aj=>some (.inl (aj,(aa+1))))else(some (.inl (ai,(aa+1)))))else(some (.inl (af,(aa+1)))))else(some (.inl (ae,(aa+1)))))else(some (.inl (ad,(aa+1)))))else(some (.inr (U))))else(some (.inr (U)))
def zb4 (I:(List xry)->Int->Int->Option Int) (l:List xry) (deep:Int):(Int×Nat)->Option ((Int×Nat)⊕(Int))
 |(U,aa)=>if(aa:Int)<(l.length:Int)then(if 0<=U then((l[aa]?).bind fun ab=>(zc4 ab.Target 60 (w64 (U-(w64 ((ab.Name.length:Int).tdiv 100))))).bind fun ad=>if 0<=ad then((zc4 ab.Value 60 ad).bind fun ae=>if 0<=ae then((zc4 (⟨0,0,0,[],ab.Args⟩:xrx) 60 ae).bind fun af=>if 0<=af then((I ab.Body (w64 (deep-1)) af).bind fun ai=>if 0<=ai then((I ab.Else (w64 (deep-1)) ai).bind fun aj=>some (.inl (aj,(aa+1))))else(some (.inl (ai,(aa+1)))))else(some (.inl (af,(aa+1)))))else(some (.inl (ae,(aa+1)))))else(some (.inl (ad,(aa+1)))))else(some (.inr (U))))else(some (.inr (U)))
def zec (I:(List xry)->Int->Int->Option Int) (l:List xry) (deep:Int) (left:Int):Option Int:=
 if 0<(l.length:Int)then(if deep<1 then(some (-1))else(if(w64 (left-(l.length:Int)))<0 then(some (-1))else((loop (zb4 I l deep) ((w64 (left-(l.length:Int))),0)).bind (fun aa=>some aa))))else(if(w64 (left-(l.length:Int)))<0 then(some (-1))else((loop (zj9 I l deep) ((w64 (left-(l.length:Int))),0)).bind (fun U=>some U)))
def zbn:Nat->((List xry)->Int->Int->Option Int)
 |0=>fun _ _ _=>none
 |n+1=>zec (zbn n)
def zuv (n:Nat) (l:List xry) (deep:Int) (left:Int):Option Int:=(zbn n) l deep left
def zlv (l:List xry) (deep:Int) (left:Int):Option Int:=zuv 1000000 l deep left
def zcr (p:xrw):Nat->Option ((Nat)⊕(Int⊕Unit))
 |I=>if(I:Int)<(p.Tasks.length:Int)then((p.Tasks[I]?).bind fun U=>if 100<(U.Budget.length:Int)then(some (.inr (.inl (0))))else((zlv U.Body 60 2000).bind fun aa=>if aa<0 then(some (.inr (.inl (0))))else(some (.inl (I+1)))))else(some (.inr (.inr (()))))
def zd8 (p:xrw):Option Int:=
 if 500<(w64 ((w64 ((w64 ((w64 ((p.Lattice.Names.length:Int)+(p.Lattice.Below.length:Int)))+(p.Sites.length:Int)))+(p.Vars.length:Int)))+(p.Blocks.length:Int)))then(some 0)else(if 10<(p.Tasks.length:Int)then(some 0)else((loop (zcr p) 0).bind (fun I=>match I with|(.inl U)=>some U|(.inr ())=>some 1)))
def zdo (c:Int):Option Bool:=
 if 97<=c then(if c<=122 then(some true)else(if 65<=c then(if c<=90 then(some true)else(some (decide (c=95))))else(some (decide (c=95)))))else(if 65<=c then(if c<=90 then(some true)else(some (decide (c=95))))else(some (decide (c=95))))
def zfu (c:Int):Option Bool:=
 if 48<=c then(some (decide (c<=57)))else(some false)
def zj8 (s:Str):Nat->Option ((Nat)⊕(Nat))
 |I=>if(I:Int)<(s.length:Int)then((s[I]?).bind fun U=>(zdo (U.toNat:Int)).bind fun aa=>if aa=true then(some (.inl (I+1)))else((zfu (U.toNat:Int)).bind fun ab=>if ab=true then(some (.inl (I+1)))else(some (.inr (I)))))else(some (.inr (I)))
def zh5 (s:Str):Option Int:=
 if s=[]then(some 0)else((s[0]?).bind fun I=>(zdo (I.toNat:Int)).bind fun U=>if U=true then((loop (zj8 s) 1).bind (fun aa=>some (aa:Int)))else(some 0))
def zi5 (s:Str) (names:Str):(Int×Nat)->Option ((Int×Nat)⊕(Bool⊕Unit))
 |(U,I)=>if(I:Int)<=(names.length:Int)then(if(I:Int)=(names.length:Int)then(if U<(I:Int)then(need (0<=U/\U<=(I:Int)/\(I:Int)<=names.length) (if((names.take I).drop U.toNat)=s then(some (.inr (.inl (true))))else(some (.inl ((w64 ((I:Int)+1)),(I+1))))))else(some (.inl ((w64 ((I:Int)+1)),(I+1)))))else((names[I]?).bind fun aa=>if(aa.toNat:Int)=32 then(if U<(I:Int)then(need (0<=U/\U<=(I:Int)/\(I:Int)<=names.length) (if((names.take I).drop U.toNat)=s then(some (.inr (.inl (true))))else(some (.inl ((w64 ((I:Int)+1)),(I+1))))))else(some (.inl ((w64 ((I:Int)+1)),(I+1)))))else(some (.inl (U,(I+1))))))else(some (.inr (.inr (()))))
def zeb (s:Str) (names:Str):Option Bool:=
 (loop (zi5 s names) (0,0)).bind (fun I=>match I with|(.inl U)=>some U|(.inr ())=>some false)
def zg3 (s:Str):Option Bool:=
 (zeb s ([65,78,68,32,65,82,82,65,89,32,65,84,32,66,76,79,67,75,32,66,79,79,76,32,66,85,68,71,69,84,32,67,84,68,32,67,84,85,32,67,84,85,68,32,68,69,67,76,65,83,83,73,70,89,32,68,73,78,84,32,68,79,32,69,76,83,69,32,69,78,68,32,69,78,68,95,70,79,82,32,69,78,68,95,73,70,32,69,78,68,95,87,72,73,76,69,32,69,86,69,82,89,32,70,65,76,83,69,32,70,79,82,32,70,95,84,82,73,71,32,73,70,32,73,78,80,85,84,32,73,78,84,32,76,65,66,69,76,32,77,79,68,32,78,79,84,32,79,70,32,79,82,32,79,85,84,80,85,84,32,80,82,73,79,82,73,84,89,32,82,83,32,82,95,84,82,73,71,32,83,73,84,69,32,83,82,32,84,65,83,75,32,84,72,69,78,32,84,73,77,69,32,84,79,32,84,79,70,32,84,79,78,32,84,80,32,84,82,85,69,32,86,65,82,32,87,72,73,76,69,32,88,79,82]:Str)).bind fun I=>some I
def zi4:((List Int)×Nat)->Option (((List Int)×Nat)⊕(List Int))
 |(I,U)=>if(U:Int)<(I.length:Int)then((I[U]?).bind fun aa=>if 97<=aa then(if aa<=122 then(some (.inl ((I.set U (IntKind.u8.wrap (aa-32))),(U+1))))else(some (.inl (I,(U+1)))))else(some (.inl (I,(U+1)))))else(some (.inr (I)))
def zft (s:Str):Option Str:=
 (loop (zi4) ((zu2 s),0)).bind (fun I=>some (yet I))
def zat (s:Str):Option Bool:=
 if s=[]then(some false)else(if(s.length:Int)<=32 then((zh5 s).bind fun I=>if I=(s.length:Int)then((zft s).bind fun U=>(zg3 U).bind fun aa=>some (!aa))else(some false))else(some false))
def zjl (l:List Str) (name:Str):Nat->Option ((Nat)⊕(Int⊕Unit))
 |I=>if(I:Int)<(l.length:Int)then((l[I]?).bind fun U=>if U=name then(some (.inr (.inl ((I:Int)))))else(some (.inl (I+1))))else(some (.inr (.inr (()))))
def zgx (l:List Str) (name:Str):Option Int:=
 (loop (zjl l name) 0).bind (fun I=>match I with|(.inl U)=>some U|(.inr ())=>some (-1))
def za6 (l:xr4) (a:Int):Option Bool:=
 if 0<=a then(some (decide (a<(l.Names.length:Int))))else(some false)
def za7 (p:xrw) (n:Int):Option Bool:=
 (za6 p.Lattice n).bind fun I=>some I
def za2 (kind:Int):Option Int:=
 if kind=1 then(some 1)else(if kind=2 then(some 16)else(if kind=3 then(some 32)else(if kind=4 then(some 32)else(some 0))))
def zb8 (kind:Int):Option Int:=
 if kind=2 then(some 32768)else(some 2147483648)
def zav (kind:Int) (n:Int):Option Bool:=
 if kind=1 then(if n=0 then(some true)else(some (decide (n=1))))else((za2 kind).bind fun I=>if 0<I then((zb8 kind).bind fun U=>if(w64 (0-U))<=n then((zb8 kind).bind fun aa=>some (decide (n<aa)))else(some false))else(some false))
def zbx (t:xsc):Option Int:=
 (za2 t.Kind).bind fun I=>if I=0 then(some 6)else(if t.Len<0 then(some 6)else(if 32<t.Len then(some 6)else(if t.Len=0 then(if t.Low=0 then(if t.Low<(-32768)then(some 6)else(if 32767<t.Low then(some 6)else(some 0)))else(some 6))else(if t.Low<(-32768)then(some 6)else(if 32767<t.Low then(some 6)else(some 0))))))
def zd1 (p:xrw) (v:xr7):Option Bool:=
 (zat v.Name).bind fun I=>if I=true then((zbx v.Type_).bind fun U=>if U=0 then(if v.Mode=0 then(if v.Safe=0 then(if v.Label=(-1)then(if v.Type_.Len=0 then(some true)else(some (decide (v.Type_.Low<=(w64 (32768-v.Type_.Len))))))else((za7 p v.Label).bind fun aa=>if aa=true then(if v.Type_.Len=0 then(some true)else(some (decide (v.Type_.Low<=(w64 (32768-v.Type_.Len))))))else(some false)))else(some false))else(if v.Mode=1 then(if v.Safe=0 then((za7 p v.Label).bind fun ab=>if ab=true then(some (decide (v.Type_.Len=0)))else(some false))else(some false))else(if v.Mode=2 then((za7 p v.Label).bind fun ad=>if ad=true then(if v.Type_.Len=0 then((zav v.Type_.Kind v.Safe).bind fun ae=>some ae)else(some false))else(some false))else(some false))))else(some false))else(some false)
def zgf (p:xrw):Nat->Option ((Nat)⊕(Bool⊕Unit))
 |I=>if(I:Int)<(p.Blocks.length:Int)then((p.Blocks[I]?).bind fun U=>(zat U.Name).bind fun aa=>if aa=true then((zeb U.Kind ([67,84,68,32,67,84,85,32,67,84,85,68,32,70,95,84,82,73,71,32,82,83,32,82,95,84,82,73,71,32,83,82,32,84,79,70,32,84,79,78,32,84,80]:Str)).bind fun ab=>if ab=true then((za7 p U.Label).bind fun ad=>if ad=true then(some (.inl (I+1)))else(some (.inr (.inl (false)))))else(some (.inr (.inl (false)))))else(some (.inr (.inl (false)))))else(some (.inr (.inr (()))))
def zgg (p:xrw):Nat->Option ((Nat)⊕(Bool⊕Unit))
 |I=>if(I:Int)<(p.Vars.length:Int)then((p.Vars[I]?).bind fun U=>(zd1 p U).bind fun aa=>if aa=true then(some (.inl (I+1)))else(some (.inr (.inl (false)))))else(some (.inr (.inr (()))))
def zgh (p:xrw):Nat->Option ((Nat)⊕(Bool⊕Unit))
 |I=>if(I:Int)<(p.Sites.length:Int)then((p.Sites[I]?).bind fun U=>(zat U.Name).bind fun aa=>if aa=true then((za7 p U.From).bind fun ab=>if ab=true then((za7 p U.To).bind fun ad=>if ad=true then(some (.inl (I+1)))else(some (.inr (.inl (false)))))else(some (.inr (.inl (false)))))else(some (.inr (.inl (false)))))else(some (.inr (.inr (()))))
def zgi (p:xrw):Nat->Option ((Nat)⊕(Bool⊕Unit))
 |I=>if(I:Int)<(p.Lattice.Below.length:Int)then((p.Lattice.Below[I]?).bind fun U=>(za7 p U.a0).bind fun aa=>if aa=true then((za7 p U.a1).bind fun ab=>if ab=true then(some (.inl (I+1)))else(some (.inr (.inl (false)))))else(some (.inr (.inl (false)))))else(some (.inr (.inr (()))))
def zgj (p:xrw):Nat->Option ((Nat)⊕(Bool⊕Unit))
 |I=>if(I:Int)<(p.Lattice.Names.length:Int)then((p.Lattice.Names[I]?).bind fun U=>(zat U).bind fun aa=>if aa=true then((zgx p.Lattice.Names U).bind fun ab=>if ab=(I:Int)then(some (.inl (I+1)))else(some (.inr (.inl (false)))))else(some (.inr (.inl (false)))))else(some (.inr (.inr (()))))
def zfq (p:xrw):Option Bool:=
 if 8<(p.Lattice.Names.length:Int)then(some false)else(if 8<(p.Sites.length:Int)then(some false)else(if 48<(p.Vars.length:Int)then(some false)else(if 12<(p.Blocks.length:Int)then(some false)else(if 4<(p.Tasks.length:Int)then(some false)else(if 16384<(p.Lattice.Below.length:Int)then(some false)else((loop (zgj p) 0).bind (fun I=>match I with|(.inl ae)=>some ae|(.inr ())=>(loop (zgi p) 0).bind (fun I=>match I with|(.inl U)=>some U|(.inr ())=>(loop (zgh p) 0).bind (fun I=>match I with|(.inl aa)=>some aa|(.inr ())=>(loop (zgg p) 0).bind (fun I=>match I with|(.inl ab)=>some ab|(.inr ())=>(loop (zgf p) 0).bind (fun I=>match I with|(.inl ad)=>some ad|(.inr ())=>some true)))))))))))
def zbu (e:xrx):Option Bool:=
 if e.Op=1 then(if 0<=e.N then(if e.Kind=1 then(if e.N<=1 then(if(e.Args.length:Int)=0 then(some (decide (e.Name=[])))else(some false))else(if e.Kind=2 then none else(if e.Kind=3 then none else(if e.Kind=4 then none else(some false)))))else(if e.Kind=2 then(if e.N<=32767 then(if(e.Args.length:Int)=0 then(some (decide (e.Name=[])))else(some false))else(if e.Kind=3 then none else(if e.Kind=4 then none else(some false))))else(if e.Kind=3 then(if e.N<=2147483647 then(if(e.Args.length:Int)=0 then(some (decide (e.Name=[])))else(some false))else(some false))else(if e.Kind=4 then(if e.N<=2147483647 then(if(e.Args.length:Int)=0 then(some (decide (e.Name=[])))else(some false))else(some false))else(some false)))))else(some false))else(if e.Kind=0 then(if e.Op=2 then(if(e.Args.length:Int)=0 then(if e.N=0 then((zat e.Name).bind fun I=>some I)else(some false))else(some false))else(if e.Op=4 then(if(e.Args.length:Int)=0 then(if 0<=e.N then(if e.N<=9 then((zat e.Name).bind fun U=>some U)else(some false))else(some false))else(some false))else(if e.Op=3 then(if(e.Args.length:Int)=1 then(if e.N=0 then((zat e.Name).bind fun aa=>some aa)else(some false))else(some false))else(if e.Op=21 then(if(e.Args.length:Int)=1 then(if e.N=0 then((zat e.Name).bind fun ab=>some ab)else(some false))else(some false))else(if e.Op=5 then(if(e.Args.length:Int)=1 then(if e.N=0 then(some (decide (e.Name=[])))else(some false))else(some false))else(if e.Op=6 then(if(e.Args.length:Int)=1 then(if e.N=0 then(some (decide (e.Name=[])))else(some false))else(some false))else(if 7<=e.Op then(if e.Op<=20 then(if(e.Args.length:Int)=2 then(if e.N=0 then(some (decide (e.Name=[])))else(some false))else(some false))else(some false))else(some false))))))))else(some false))
def zi3 (I:xrx->Int->Int->Option Int) (e:xrx) (deep:Int):(Int×Nat)->Option ((Int×Nat)⊕(Int))
 |(U,aa)=>if(aa:Int)<(e.Args.length:Int)then(if 0<=U then((e.Args[aa]?).bind fun ab=>(I ab (w64 (deep-1)) U).bind fun ad=>some (.inl (ad,(aa+1))))else(some (.inr (U))))else(some (.inr (U)))
def zeo (I:xrx->Int->Int->Option Int) (e:xrx) (deep:Int) (left:Int):Option Int:=
 if deep<1 then(some (-1))else(if left<0 then(some (-1))else((zbu e).bind fun U=>if U=true then((loop (zi3 I e deep) ((w64 (left-1)),0)).bind (fun aa=>some aa))else(some (-1))))
def zc9:Nat->(xrx->Int->Int->Option Int)
 |0=>fun _ _ _=>none
 |n+1=>zeo (zc9 n)
def zsy (n:Nat) (e:xrx) (deep:Int) (left:Int):Option Int:=(zc9 n) e deep left
def zkp (e:xrx) (deep:Int) (left:Int):Option Int:=zsy 1000000 e deep left
def zic:(Int×Str)->Option ((Int×Str)⊕(Int×Str))
 |(I,U)=>if 10<=I then(need (0<=(I.tmod 10)/\(I.tmod 10)<=(w64 ((I.tmod 10)+1))/\(w64 ((I.tmod 10)+1))<=10) (need (((([48,49,50,51,52,53,54,55,56,57]:Str).take (w64 ((I.tmod 10)+1)).toNat).drop (I.tmod 10).toNat).length+U.length<=281474976710656) (some (.inl ((w64 (I.tdiv 10)),(((([48,49,50,51,52,53,54,55,56,57]:Str).take (w64 ((I.tmod 10)+1)).toNat).drop (I.tmod 10).toNat)++U))))))else(some (.inr ((I,U))))
def zaw (n:Int):Option Str:=
 (loop (zic) (n,[])).bind (fun(I,U)=>need (0<=I/\I<=(w64 (I+1))/\(w64 (I+1))<=10) (need (((([48,49,50,51,52,53,54,55,56,57]:Str).take (w64 (I+1)).toNat).drop I.toNat).length+U.length<=281474976710656) (some (((([48,49,50,51,52,53,54,55,56,57]:Str).take (w64 (I+1)).toNat).drop I.toNat)++U))))
def zc0 (op:Int):Option Int:=
 if op=20 then(some 1)else(if op=19 then(some 2)else(if op=18 then(some 3)else(if 12<=op then(if op<=17 then(some 4)else(if op=10 then(some 5)else(if op=11 then(some 5)else(if 7<=op then(if op<=9 then(some 6)else(if op=5 then(some 7)else(if op=6 then(some 7)else(some 8))))else(if op=5 then(some 7)else(if op=6 then(some 7)else(some 8)))))))else(if op=10 then(some 5)else(if op=11 then(some 5)else(if 7<=op then(if op<=9 then(some 6)else(if op=5 then(some 7)else(if op=6 then(some 7)else(some 8))))else(if op=5 then(some 7)else(if op=6 then(some 7)else(some 8)))))))))
def zfs (level:Int):Option (Str×Int):=
 if level=1 then(some (([79,82]:Str),20))else(if level=2 then(some (([88,79,82]:Str),19))else(if level=3 then(some (([65,78,68]:Str),18))else(if level=4 then(some (([61,32,60,62,32,60,32,60,61,32,62,32,62,61]:Str),12))else(if level=5 then(some (([43,32,45]:Str),10))else(some (([42,32,47,32,77,79,68]:Str),7))))))
def zjq (op:Int) (aa:Str×Int):(Int×Int×Nat)->Option ((Int×Int×Nat)⊕(Str⊕Unit))
 |(ab,I,U)=>if(U:Int)<=(aa.1.length:Int)then(if(U:Int)=(aa.1.length:Int)then(if ab=op then(need (0<=I/\I<=(U:Int)/\(U:Int)<=aa.1.length) (some (.inr (.inl (((aa.1.take U).drop I.toNat))))))else(some (.inl ((w64 (ab+1)),(w64 ((U:Int)+1)),(U+1)))))else((aa.1[U]?).bind fun ad=>if(ad.toNat:Int)=32 then(if ab=op then(need (0<=I/\I<=(U:Int)/\(U:Int)<=aa.1.length) (some (.inr (.inl (((aa.1.take U).drop I.toNat))))))else(some (.inl ((w64 (ab+1)),(w64 ((U:Int)+1)),(U+1)))))else(some (.inl (ab,I,(U+1))))))else(some (.inr (.inr (()))))
def zg2 (op:Int):Option Str:=
 (zc0 op).bind fun aa=>(zfs aa).bind fun I=>(loop (zjq op I) (I.2,0,0)).bind (fun ab=>match ab with|(.inl U)=>some U|(.inr ())=>some [])
def ze6 (U:xrx->Option Str) (I:xrx->Int->Option Str) (e:xrx):Option Str:=
 if e.Op=1 then(if e.Kind=1 then(if e.N=1 then(some ([84,82,85,69]:Str))else(some ([70,65,76,83,69]:Str)))else(if e.Kind=3 then((zaw e.N).bind fun af=>need (af.length+5<=281474976710656) (need (af.length+6<=281474976710656) (some ((([68,73,78,84,40]:Str)++af)++([41]:Str)))))else(if e.Kind=4 then((zaw e.N).bind fun ai=>need (ai.length+5<=281474976710656) (need (ai.length+6<=281474976710656) (some ((([84,73,77,69,40]:Str)++ai)++([41]:Str)))))else((zaw e.N).bind fun ay=>some ay))))else(if e.Op=2 then(some e.Name)else(if e.Op=4 then(need (e.Name.length+1<=281474976710656) ((zaw e.N).bind fun ao=>need (e.Name.length+ao.length+1<=281474976710656) (some ((e.Name++([46]:Str))++ao))))else(if e.Op=3 then(need (e.Name.length+1<=281474976710656) ((e.Args[0]?).bind fun aq=>(U aq).bind fun ad=>need (e.Name.length+ad.length+1<=281474976710656) (need (e.Name.length+ad.length+2<=281474976710656) (some (((e.Name++([91]:Str))++ad)++([93]:Str))))))else(if e.Op=21 then(need (e.Name.length+11<=281474976710656) (need (e.Name.length+13<=281474976710656) ((e.Args[0]?).bind fun ar=>(U ar).bind fun ae=>need (e.Name.length+ae.length+13<=281474976710656) (need (e.Name.length+ae.length+14<=281474976710656) (some ((((([68,69,67,76,65,83,83,73,70,89,40]:Str)++e.Name)++([44,32]:Str))++ae)++([41]:Str)))))))else(if e.Op=5 then((e.Args[0]?).bind fun au=>(I au 7).bind fun aj=>need (aj.length+1<=281474976710656) (some (([45]:Str)++aj)))else(if e.Op=6 then((e.Args[0]?).bind fun av=>(I av 7).bind fun ak=>need (ak.length+4<=281474976710656) (some (([78,79,84,32]:Str)++ak)))else((zc0 e.Op).bind fun al=>(e.Args[0]?).bind fun aw=>(I aw al).bind fun aa=>need (aa.length+1<=281474976710656) ((zg2 e.Op).bind fun ab=>need (aa.length+ab.length+1<=281474976710656) (need (aa.length+ab.length+2<=281474976710656) ((e.Args[1]?).bind fun ax=>(I ax (w64 (al+1))).bind fun an=>need (aa.length+ab.length+an.length+2<=281474976710656) (some ((((aa++([32]:Str))++ab)++([32]:Str))++an))))))))))))
def ze7 (I:xrx->Option Str) (U:xrx->Int->Option Str) (e:xrx) (least:Int):Option Str:=
 (zc0 e.Op).bind fun ab=>if ab<least then((I e).bind fun aa=>need (aa.length+1<=281474976710656) (need (aa.length+2<=281474976710656) (some ((([40]:Str)++aa)++([41]:Str)))))else((I e).bind fun ad=>some ad)
def zaz:Nat->(xrx->Option Str)×(xrx->Int->Option Str)
 |0=>(fun _=>none,fun _ _=>none)
 |n+1=>(ze6 (zaz n).1 (zaz n).2,ze7 (zaz n).1 (zaz n).2)
def ztw (n:Nat) (e:xrx):Option Str:=(zaz n).1 e
def zg1 (e:xrx):Option Str:=ztw 1000000 e
def zap (e:xrx):Option Bool:=
 (zkp e 24 16384).bind fun I=>if 0<=I then((zg1 e).bind fun U=>some (decide ((U.length:Int)<=16384)))else(some false)
def ze3 (e:xrx):Option Bool:=
 if e.Op=2 then((zap e).bind fun I=>some I)else(if e.Op=3 then(if(e.Args.length:Int)=1 then(if e.N=0 then(if e.Kind=0 then((zat e.Name).bind fun U=>if U=true then((e.Args[0]?).bind fun aa=>(zap aa).bind fun ab=>some ab)else(some false))else(some false))else(some false))else(some false))else(some false))
def zep (I:xrx->xrx->Option Bool) (a:xrx) (b:xrx):Nat->Option ((Nat)⊕(Bool⊕Unit))
 |U=>if(U:Int)<(a.Args.length:Int)then((a.Args[U]?).bind fun aa=>(b.Args[U]?).bind fun ab=>(I aa ab).bind fun ad=>if ad=true then(some (.inl (U+1)))else(some (.inr (.inl (false)))))else(some (.inr (.inr (()))))
def zcp (I:xrx->xrx->Option Bool) (a:xrx) (b:xrx):Option Bool:=
 if a.Op=b.Op then(if a.N=b.N then(if a.Kind=b.Kind then(if a.Name=b.Name then(if(a.Args.length:Int)=(b.Args.length:Int)then((loop (zep I a b) 0).bind (fun U=>match U with|(.inl aa)=>some aa|(.inr ())=>some true))else(some false))else(some false))else(some false))else(some false))else(some false)
def zdn:Nat->(xrx->xrx->Option Bool)
 |0=>fun _ _=>none
 |n+1=>zcp (zdn n)
def ztx (n:Nat) (a:xrx) (b:xrx):Option Bool:=(zdn n) a b
def zdk (a:xrx) (b:xrx):Option Bool:=ztx 1000000 a b
def zas (e:xrx):Option Bool:=
 (zdk e (⟨0,0,0,[],[]⟩:xrx)).bind fun I=>some I
def zjp (l:List xrx):Nat->Option ((Nat)⊕(Bool⊕Unit))
 |I=>if(I:Int)<(l.length:Int)then((l[I]?).bind fun U=>(zap U).bind fun aa=>if aa=true then(some (.inl (I+1)))else(some (.inr (.inl (false)))))else(some (.inr (.inr (()))))
def zco (l:List xrx):Option Bool:=
 (loop (zjp l) 0).bind (fun I=>match I with|(.inl U)=>some U|(.inr ())=>some true)
def zcn (s:xry):Option Bool:=
 if(s.Body.length:Int)=0 then(if s.Kind=1 then(if(s.Else.length:Int)=0 then(if s.Name=[]then(if(s.Args.length:Int)=0 then((ze3 s.Target).bind fun aq=>if aq=true then((zap s.Value).bind fun ar=>some ar)else(some false))else(some false))else(some false))else(some false))else(if s.Kind=2 then(if s.Name=[]then(if(s.Args.length:Int)=0 then((zas s.Target).bind fun au=>if au=true then((zap s.Value).bind fun av=>some av)else(some false))else(some false))else(some false))else(if s.Kind=3 then(if s.Name=[]then(if(s.Args.length:Int)=0 then(if(s.Else.length:Int)=0 then((zas s.Target).bind fun aw=>if aw=true then((zap s.Value).bind fun ax=>some ax)else(some false))else(some false))else(some false))else(some false))else(if s.Kind=4 then((zat s.Name).bind fun ay=>if ay=true then(if(s.Args.length:Int)=2 then((zco s.Args).bind fun az=>if az=true then(if(s.Else.length:Int)=0 then((zas s.Target).bind fun aA=>if aA=true then((zas s.Value).bind fun I=>some I)else(some false))else(some false))else(some false))else(some false))else(some false))else(if s.Kind=5 then(if(s.Else.length:Int)=0 then((zat s.Name).bind fun U=>if U=true then((zas s.Target).bind fun aa=>if aa=true then((zas s.Value).bind fun ab=>if ab=true then(if(s.Args.length:Int)<=16384 then((zco s.Args).bind fun ad=>some ad)else(some false))else(some false))else(some false))else(some false))else(some false))else(some false))))))else(if s.Kind=1 then(some false)else(if s.Kind=2 then(if s.Name=[]then(if(s.Args.length:Int)=0 then((zas s.Target).bind fun ae=>if ae=true then((zap s.Value).bind fun af=>some af)else(some false))else(some false))else(some false))else(if s.Kind=3 then(if s.Name=[]then(if(s.Args.length:Int)=0 then(if(s.Else.length:Int)=0 then((zas s.Target).bind fun ai=>if ai=true then((zap s.Value).bind fun aj=>some aj)else(some false))else(some false))else(some false))else(some false))else(if s.Kind=4 then((zat s.Name).bind fun ak=>if ak=true then(if(s.Args.length:Int)=2 then((zco s.Args).bind fun al=>if al=true then(if(s.Else.length:Int)=0 then((zas s.Target).bind fun an=>if an=true then((zas s.Value).bind fun ao=>some ao)else(some false))else(some false))else(some false))else(some false))else(some false))else(if s.Kind=5 then(some false)else(some false))))))
def za3 (e:xrx):Option Str:=
 (zap e).bind fun I=>if I=true then((zg1 e).bind fun U=>some U)else(some [])
def zfr (e:xrx):Option Str:=
 if e.Op=3 then((e.Args[0]?).bind fun U=>(za3 U).bind fun I=>need (I.length+1<=281474976710656) (need (I.length+2<=281474976710656) (some ((([91]:Str)++I)++([93]:Str)))))else(some [])
def zjn (s:xry):(Str×Nat)->Option ((Str×Nat)⊕(Str))
 |(I,U)=>if(U:Int)<(s.Args.length:Int)then(if 0<(U:Int)then(need (I.length+2<=281474976710656) ((s.Args[U]?).bind fun ad=>(za3 ad).bind fun aa=>need (I.length+aa.length+2<=281474976710656) (some (.inl (((I++([44,32]:Str))++aa),(U+1))))))else((s.Args[U]?).bind fun ae=>(za3 ae).bind fun ab=>need (I.length+ab.length<=281474976710656) (some (.inl ((I++ab),(U+1))))))else(some (.inr (I)))
def zcm (s:xry):Option Str:=
 if s.Kind=1 then((za3 (⟨2,0,0,s.Target.Name,[]⟩:xrx)).bind fun U=>(zfr s.Target).bind fun aa=>need (U.length+aa.length<=281474976710656) (need (U.length+aa.length+4<=281474976710656) ((za3 s.Value).bind fun ae=>need (U.length+aa.length+ae.length+4<=281474976710656) (need (U.length+aa.length+ae.length+5<=281474976710656) (some ((((U++aa)++([32,58,61,32]:Str))++ae)++([59]:Str)))))))else(if s.Kind=2 then((za3 s.Value).bind fun af=>need (af.length+3<=281474976710656) (need (af.length+9<=281474976710656) (some ((([73,70,32]:Str)++af)++([32,84,72,69,78,32]:Str)))))else(if s.Kind=3 then((za3 s.Value).bind fun ab=>need (ab.length+6<=281474976710656) (need (ab.length+10<=281474976710656) (some ((([87,72,73,76,69,32]:Str)++ab)++([32,68,79,32]:Str)))))else(if s.Kind=4 then(need (s.Name.length+4<=281474976710656) (need (s.Name.length+8<=281474976710656) ((s.Args[0]?).bind fun aj=>(za3 aj).bind fun I=>need (s.Name.length+I.length+8<=281474976710656) (need (s.Name.length+I.length+12<=281474976710656) ((s.Args[1]?).bind fun ak=>(za3 ak).bind fun ad=>need (s.Name.length+I.length+ad.length+12<=281474976710656) (need (s.Name.length+I.length+ad.length+16<=281474976710656) (some ((((((([70,79,82,32]:Str)++s.Name)++([32,58,61,32]:Str))++I)++([32,84,79,32]:Str))++ad)++([32,68,79,32]:Str)))))))))else(need (s.Name.length+1<=281474976710656) ((loop (zjn s) ((s.Name++([40]:Str)),0)).bind (fun ai=>need (ai.length+2<=281474976710656) (some (ai++([41,59]:Str)))))))))
def zi0 (I:(List xry)->Int->Int->Option Int) (l:List xry) (deep:Int):(Int×Nat)->Option ((Int×Nat)⊕(Int⊕Int))
 |(U,aa)=>if(aa:Int)<(l.length:Int)then(if 0<=U then((l[aa]?).bind fun ab=>(zcn ab).bind fun af=>if af=true then((zcm ab).bind fun ad=>if 0<=(w64 (U-(ad.length:Int)))then((I ab.Body (w64 (deep-1)) (w64 (U-(ad.length:Int)))).bind fun ae=>if 0<=ae then((I ab.Else (w64 (deep-1)) ae).bind fun ai=>some (.inl (ai,(aa+1))))else(some (.inl (ae,(aa+1)))))else(some (.inl ((w64 (U-(ad.length:Int))),(aa+1)))))else(some (.inr (.inl ((-1))))))else(some (.inr (.inr (U)))))else(some (.inr (.inr (U))))
def zi1 (I:(List xry)->Int->Int->Option Int) (l:List xry) (deep:Int):(Int×Nat)->Option ((Int×Nat)⊕(Int⊕Int))
 |(U,aa)=>if(aa:Int)<(l.length:Int)then(if 0<=U then((l[aa]?).bind fun ab=>(zcn ab).bind fun af=>if af=true then((zcm ab).bind fun ad=>if 0<=(w64 (U-(ad.length:Int)))then((I ab.Body (w64 (deep-1)) (w64 (U-(ad.length:Int)))).bind fun ae=>if 0<=ae then((I ab.Else (w64 (deep-1)) ae).bind fun ai=>some (.inl (ai,(aa+1))))else(some (.inl (ae,(aa+1)))))else(some (.inl ((w64 (U-(ad.length:Int))),(aa+1)))))else(some (.inr (.inl ((-1))))))else(some (.inr (.inr (U)))))else(some (.inr (.inr (U))))
def zc8 (I:(List xry)->Int->Int->Option Int) (l:List xry) (deep:Int) (left:Int):Option Int:=
 if deep<0 then(some (-1))else(if 0<(l.length:Int)then(if deep<1 then(some (-1))else(if left<(l.length:Int)then(some (-1))else((loop (zi1 I l deep) (left,0)).bind (fun ab=>match ab with|(.inl ad)=>some ad|(.inr U)=>some U))))else(if left<(l.length:Int)then(some (-1))else((loop (zi0 I l deep) (left,0)).bind (fun ab=>match ab with|(.inl ae)=>some ae|(.inr aa)=>some aa))))
def zce:Nat->((List xry)->Int->Int->Option Int)
 |0=>fun _ _ _=>none
 |n+1=>zc8 (zce n)
def zss (n:Nat) (l:List xry) (deep:Int) (left:Int):Option Int:=(zce n) l deep left
def znm (l:List xry) (deep:Int) (left:Int):Option Int:=zss 1000000 l deep left
def zg0 (l:List xry):Option Bool:=
 (znm l 24 16384).bind fun I=>some (decide (0<=I))
def zgc (U:xse):Nat->Option ((Nat)⊕(Bool⊕Unit))
 |I=>if(I:Int)<(U.Budget.length:Int)then((U.Budget[I]?).bind fun aa=>if aa<0 then(some (.inr (.inl (false))))else(if 4096<aa then(some (.inr (.inl (false))))else(some (.inl (I+1)))))else(some (.inr (.inr (()))))
def zgd (p:xrw):Nat->Option ((Nat)⊕(Bool⊕Unit))
 |U=>if(U:Int)<(p.Tasks.length:Int)then((p.Tasks[U]?).bind fun I=>if I.Every<1 then(some (.inr (.inl (false))))else(if 65536<I.Every then(some (.inr (.inl (false))))else(if I.Priority<0 then(some (.inr (.inl (false))))else(if 255<I.Priority then(some (.inr (.inl (false))))else(if(I.Budget.length:Int)=(p.Lattice.Names.length:Int)then((zg0 I.Body).bind fun ab=>if ab=true then((loop (zgc I) 0).bind (fun ad=>match ad with|(.inl aa)=>some (.inr (.inl (aa)))|(.inr ())=>some (.inl (U+1))))else(some (.inr (.inl (false)))))else(some (.inr (.inl (false)))))))))else(some (.inr (.inr (()))))
def zfp (p:xrw):Option Bool:=
 (loop (zgd p) 0).bind (fun U=>match U with|(.inl I)=>some I|(.inr ())=>some true)
def zb3 (n:Int):Option Str:=
 if n<0 then((zaw (w64 (0-n))).bind fun I=>need (I.length+1<=281474976710656) (some (([45]:Str)++I)))else((zaw n).bind fun U=>some U)
def zh3 (t:xsc):Option Str:=
 (idx [[],([66,79,79,76]:Str),([73,78,84]:Str),([68,73,78,84]:Str),([84,73,77,69]:Str)] t.Kind).bind fun aa=>if t.Len=0 then(some aa)else((zb3 t.Low).bind fun I=>need (I.length+6<=281474976710656) (need (I.length+8<=281474976710656) ((zb3 (w64 ((w64 (t.Low+t.Len))-1))).bind fun U=>need (I.length+U.length+8<=281474976710656) (need (I.length+U.length+13<=281474976710656) (need (I.length+U.length+aa.length+13<=281474976710656) (some (((((([65,82,82,65,89,91]:Str)++I)++([46,46]:Str))++U)++([93,32,79,70,32]:Str))++aa)))))))
def zh4 (p:xrw) (v:xr7):Option Str:=
 (idx [([86,65,82,32]:Str),([73,78,80,85,84,32]:Str),([79,85,84,80,85,84,32]:Str)] v.Mode).bind fun I=>need (I.length+v.Name.length<=281474976710656) (need (I.length+v.Name.length+2<=281474976710656) ((zh3 v.Type_).bind fun U=>need (I.length+v.Name.length+U.length+2<=281474976710656) (if 0<=v.Label then((idx p.Lattice.Names v.Label).bind fun aa=>need (aa.length+3<=281474976710656) (need (I.length+v.Name.length+U.length+aa.length+5<=281474976710656) (if v.Mode=2 then(if v.Type_.Kind=1 then(if v.Safe=1 then(need (I.length+v.Name.length+U.length+aa.length+13<=281474976710656) (need (I.length+v.Name.length+U.length+aa.length+15<=281474976710656) (some ((((((I++v.Name)++([58,32]:Str))++U)++(([32,64,32]:Str)++aa))++([32,58,61,32,84,82,85,69]:Str))++([59,10]:Str)))))else(need (I.length+v.Name.length+U.length+aa.length+14<=281474976710656) (need (I.length+v.Name.length+U.length+aa.length+16<=281474976710656) (some ((((((I++v.Name)++([58,32]:Str))++U)++(([32,64,32]:Str)++aa))++([32,58,61,32,70,65,76,83,69]:Str))++([59,10]:Str))))))else((zb3 v.Safe).bind fun ab=>need (ab.length+4<=281474976710656) (need (I.length+v.Name.length+U.length+aa.length+ab.length+9<=281474976710656) (need (I.length+v.Name.length+U.length+aa.length+ab.length+11<=281474976710656) (some ((((((I++v.Name)++([58,32]:Str))++U)++(([32,64,32]:Str)++aa))++(([32,58,61,32]:Str)++ab))++([59,10]:Str)))))))else(need (I.length+v.Name.length+U.length+aa.length+7<=281474976710656) (some (((((I++v.Name)++([58,32]:Str))++U)++(([32,64,32]:Str)++aa))++([59,10]:Str)))))))else(if v.Mode=2 then(if v.Type_.Kind=1 then(if v.Safe=1 then(need (I.length+v.Name.length+U.length+10<=281474976710656) (need (I.length+v.Name.length+U.length+12<=281474976710656) (some (((((I++v.Name)++([58,32]:Str))++U)++([32,58,61,32,84,82,85,69]:Str))++([59,10]:Str)))))else(need (I.length+v.Name.length+U.length+11<=281474976710656) (need (I.length+v.Name.length+U.length+13<=281474976710656) (some (((((I++v.Name)++([58,32]:Str))++U)++([32,58,61,32,70,65,76,83,69]:Str))++([59,10]:Str))))))else((zb3 v.Safe).bind fun ad=>need (ad.length+4<=281474976710656) (need (I.length+v.Name.length+U.length+ad.length+6<=281474976710656) (need (I.length+v.Name.length+U.length+ad.length+8<=281474976710656) (some (((((I++v.Name)++([58,32]:Str))++U)++(([32,58,61,32]:Str)++ad))++([59,10]:Str)))))))else(need (I.length+v.Name.length+U.length+4<=281474976710656) (some ((((I++v.Name)++([58,32]:Str))++U)++([59,10]:Str))))))))
def zjm (I:(List xry)->Option Str) (l:List xry):(Str×Nat)->Option ((Str×Nat)⊕(Str))
 |(U,ae)=>if(ae:Int)<(l.length:Int)then(if 0<(ae:Int)then(need (U.length+1<=281474976710656) ((l[ae]?).bind fun aj=>(zcm aj).bind fun af=>need (U.length+af.length+1<=281474976710656) ((I aj.Body).bind fun ad=>if ad=[]then(if aj.Kind=2 then(need (U.length+af.length+ad.length+1<=281474976710656) (if 0<(aj.Else.length:Int)then((I aj.Else).bind fun ak=>need (ak.length+5<=281474976710656) (need (ak.length+6<=281474976710656) (need (U.length+af.length+ad.length+ak.length+7<=281474976710656) (need (U.length+af.length+ad.length+ak.length+14<=281474976710656) (some (.inl ((((((U++([32]:Str))++af)++ad)++((([69,76,83,69,32]:Str)++ak)++([32]:Str)))++([69,78,68,95,73,70,59]:Str)),(ae+1))))))))else(need (U.length+af.length+ad.length+8<=281474976710656) (some (.inl (((((U++([32]:Str))++af)++ad)++([69,78,68,95,73,70,59]:Str)),(ae+1)))))))else(if aj.Kind=3 then(need (ad.length+10<=281474976710656) (need (U.length+af.length+ad.length+11<=281474976710656) (some (.inl ((((U++([32]:Str))++af)++(ad++([69,78,68,95,87,72,73,76,69,59]:Str))),(ae+1))))))else(if aj.Kind=4 then(need (ad.length+8<=281474976710656) (need (U.length+af.length+ad.length+9<=281474976710656) (some (.inl ((((U++([32]:Str))++af)++(ad++([69,78,68,95,70,79,82,59]:Str))),(ae+1))))))else(some (.inl (((U++([32]:Str))++af),(ae+1)))))))else(need (ad.length+1<=281474976710656) (if aj.Kind=2 then(need (U.length+af.length+ad.length+2<=281474976710656) (if 0<(aj.Else.length:Int)then((I aj.Else).bind fun al=>need (al.length+5<=281474976710656) (need (al.length+6<=281474976710656) (need (U.length+af.length+ad.length+al.length+8<=281474976710656) (need (U.length+af.length+ad.length+al.length+15<=281474976710656) (some (.inl ((((((U++([32]:Str))++af)++(ad++([32]:Str)))++((([69,76,83,69,32]:Str)++al)++([32]:Str)))++([69,78,68,95,73,70,59]:Str)),(ae+1))))))))else(need (U.length+af.length+ad.length+9<=281474976710656) (some (.inl (((((U++([32]:Str))++af)++(ad++([32]:Str)))++([69,78,68,95,73,70,59]:Str)),(ae+1)))))))else(if aj.Kind=3 then(need (ad.length+11<=281474976710656) (need (U.length+af.length+ad.length+12<=281474976710656) (some (.inl ((((U++([32]:Str))++af)++((ad++([32]:Str))++([69,78,68,95,87,72,73,76,69,59]:Str))),(ae+1))))))else(if aj.Kind=4 then(need (ad.length+9<=281474976710656) (need (U.length+af.length+ad.length+10<=281474976710656) (some (.inl ((((U++([32]:Str))++af)++((ad++([32]:Str))++([69,78,68,95,70,79,82,59]:Str))),(ae+1))))))else(some (.inl (((U++([32]:Str))++af),(ae+1)))))))))))else((l[ae]?).bind fun ai=>(zcm ai).bind fun ab=>need (U.length+ab.length<=281474976710656) ((I ai.Body).bind fun aa=>if aa=[]then(if ai.Kind=2 then(need (U.length+ab.length+aa.length<=281474976710656) (if 0<(ai.Else.length:Int)then((I ai.Else).bind fun an=>need (an.length+5<=281474976710656) (need (an.length+6<=281474976710656) (need (U.length+ab.length+aa.length+an.length+6<=281474976710656) (need (U.length+ab.length+aa.length+an.length+13<=281474976710656) (some (.inl (((((U++ab)++aa)++((([69,76,83,69,32]:Str)++an)++([32]:Str)))++([69,78,68,95,73,70,59]:Str)),(ae+1))))))))else(need (U.length+ab.length+aa.length+7<=281474976710656) (some (.inl ((((U++ab)++aa)++([69,78,68,95,73,70,59]:Str)),(ae+1)))))))else(if ai.Kind=3 then(need (aa.length+10<=281474976710656) (need (U.length+ab.length+aa.length+10<=281474976710656) (some (.inl (((U++ab)++(aa++([69,78,68,95,87,72,73,76,69,59]:Str))),(ae+1))))))else(if ai.Kind=4 then(need (aa.length+8<=281474976710656) (need (U.length+ab.length+aa.length+8<=281474976710656) (some (.inl (((U++ab)++(aa++([69,78,68,95,70,79,82,59]:Str))),(ae+1))))))else(some (.inl ((U++ab),(ae+1)))))))else(need (aa.length+1<=281474976710656) (if ai.Kind=2 then(need (U.length+ab.length+aa.length+1<=281474976710656) (if 0<(ai.Else.length:Int)then((I ai.Else).bind fun ao=>need (ao.length+5<=281474976710656) (need (ao.length+6<=281474976710656) (need (U.length+ab.length+aa.length+ao.length+7<=281474976710656) (need (U.length+ab.length+aa.length+ao.length+14<=281474976710656) (some (.inl (((((U++ab)++(aa++([32]:Str)))++((([69,76,83,69,32]:Str)++ao)++([32]:Str)))++([69,78,68,95,73,70,59]:Str)),(ae+1))))))))else(need (U.length+ab.length+aa.length+8<=281474976710656) (some (.inl ((((U++ab)++(aa++([32]:Str)))++([69,78,68,95,73,70,59]:Str)),(ae+1)))))))else(if ai.Kind=3 then(need (aa.length+11<=281474976710656) (need (U.length+ab.length+aa.length+11<=281474976710656) (some (.inl (((U++ab)++((aa++([32]:Str))++([69,78,68,95,87,72,73,76,69,59]:Str))),(ae+1))))))else(if ai.Kind=4 then(need (aa.length+9<=281474976710656) (need (U.length+ab.length+aa.length+9<=281474976710656) (some (.inl (((U++ab)++((aa++([32]:Str))++([69,78,68,95,70,79,82,59]:Str))),(ae+1))))))else(some (.inl ((U++ab),(ae+1)))))))))))else(some (.inr (U)))
def ze2 (I:(List xry)->Option Str) (l:List xry):Option Str:=
 (loop (zjm I l) ([],0)).bind (fun U=>some U)
def ze1:Nat->((List xry)->Option Str)
 |0=>fun _=>none
 |n+1=>ze2 (ze1 n)
def ztu (n:Nat) (l:List xry):Option Str:=(ze1 n) l
def zn7 (l:List xry):Option Str:=ztu 1000000 l
def zgz (l:List xry):Option Str:=
 (zn7 l).bind fun I=>some I
def zjk (p:xrw) (t:xse):(Str×Nat)->Option ((Str×Nat)⊕(Str))
 |(U,I)=>if(I:Int)<(t.Budget.length:Int)then(if(I:Int)=0 then(need (U.length+8<=281474976710656) ((p.Lattice.Names[I]?).bind fun aa=>need (aa.length+1<=281474976710656) ((t.Budget[I]?).bind fun af=>(zaw af).bind fun ad=>need (aa.length+ad.length+1<=281474976710656) (need (U.length+aa.length+ad.length+9<=281474976710656) (some (.inl (((U++([32,66,85,68,71,69,84,32]:Str))++((aa++([32]:Str))++ad)),(I+1))))))))else(need (U.length+2<=281474976710656) ((p.Lattice.Names[I]?).bind fun ab=>need (ab.length+1<=281474976710656) ((t.Budget[I]?).bind fun ai=>(zaw ai).bind fun ae=>need (ab.length+ae.length+1<=281474976710656) (need (U.length+ab.length+ae.length+3<=281474976710656) (some (.inl (((U++([44,32]:Str))++((ab++([32]:Str))++ae)),(I+1)))))))))else(some (.inr (U)))
def zgw (p:xrw) (t:xse):Option Str:=
 (zaw t.Every).bind fun aa=>need (aa.length+11<=281474976710656) (need (aa.length+21<=281474976710656) ((zaw t.Priority).bind fun ab=>need (aa.length+ab.length+21<=281474976710656) ((loop (zjk p t) ((((([84,65,83,75,32,69,86,69,82,89,32]:Str)++aa)++([32,80,82,73,79,82,73,84,89,32]:Str))++ab),0)).bind (fun U=>need (U.length+4<=281474976710656) ((zgz t.Body).bind fun I=>if I=[]then(need (U.length+9<=281474976710656) (some ((U++([32,68,79,32]:Str))++([69,78,68,59,10]:Str))))else(need (I.length+1<=281474976710656) (need (U.length+I.length+5<=281474976710656) (need (U.length+I.length+10<=281474976710656) (some (((U++([32,68,79,32]:Str))++(I++([32]:Str)))++([69,78,68,59,10]:Str)))))))))))
def zhd (p:xrw):(Str×Nat)->Option ((Str×Nat)⊕(Str))
 |(I,U)=>if(U:Int)<(p.Tasks.length:Int)then((p.Tasks[U]?).bind fun ab=>(zgw p ab).bind fun aa=>need (I.length+aa.length<=281474976710656) (some (.inl ((I++aa),(U+1)))))else(some (.inr (I)))
def zhe (p:xrw):(Str×Nat)->Option ((Str×Nat)⊕(Str))
 |(aa,ab)=>if(ab:Int)<(p.Blocks.length:Int)then((p.Blocks[ab]?).bind fun I=>need (I.Name.length+6<=281474976710656) (need (I.Name.length+8<=281474976710656) (need (I.Name.length+I.Kind.length+8<=281474976710656) (need (I.Name.length+I.Kind.length+11<=281474976710656) ((idx p.Lattice.Names I.Label).bind fun U=>need (I.Name.length+I.Kind.length+U.length+11<=281474976710656) (need (I.Name.length+I.Kind.length+U.length+13<=281474976710656) (need (aa.length+I.Name.length+I.Kind.length+U.length+13<=281474976710656) (some (.inl ((aa++((((((([66,76,79,67,75,32]:Str)++I.Name)++([58,32]:Str))++I.Kind)++([32,64,32]:Str))++U)++([59,10]:Str))),(ab+1)))))))))))else(some (.inr (aa)))
def zhf (p:xrw):(Str×Nat)->Option ((Str×Nat)⊕(Str))
 |(I,U)=>if(U:Int)<(p.Vars.length:Int)then((p.Vars[U]?).bind fun ab=>(zh4 p ab).bind fun aa=>need (I.length+aa.length<=281474976710656) (some (.inl ((I++aa),(U+1)))))else(some (.inr (I)))
def zhg (p:xrw):(Str×Nat)->Option ((Str×Nat)⊕(Str))
 |(ab,ad)=>if(ad:Int)<(p.Sites.length:Int)then((p.Sites[ad]?).bind fun I=>need (I.Name.length+5<=281474976710656) (need (I.Name.length+7<=281474976710656) ((idx p.Lattice.Names I.From).bind fun U=>need (I.Name.length+U.length+7<=281474976710656) (need (I.Name.length+U.length+11<=281474976710656) ((idx p.Lattice.Names I.To).bind fun aa=>need (I.Name.length+U.length+aa.length+11<=281474976710656) (need (I.Name.length+U.length+aa.length+13<=281474976710656) (need (ab.length+I.Name.length+U.length+aa.length+13<=281474976710656) (some (.inl ((ab++((((((([83,73,84,69,32]:Str)++I.Name)++([58,32]:Str))++U)++([32,45,62,32]:Str))++aa)++([59,10]:Str))),(ad+1)))))))))))else(some (.inr (ab)))
def zhh (p:xrw):(Str×Nat)->Option ((Str×Nat)⊕(Str))
 |(aa,ab)=>if(ab:Int)<(p.Lattice.Below.length:Int)then((p.Lattice.Below[ab]?).bind fun ad=>(idx p.Lattice.Names ad.a0).bind fun I=>need (I.length+6<=281474976710656) (need (I.length+9<=281474976710656) ((idx p.Lattice.Names ad.a1).bind fun U=>need (I.length+U.length+9<=281474976710656) (need (I.length+U.length+11<=281474976710656) (need (aa.length+I.length+U.length+11<=281474976710656) (some (.inl ((aa++((((([76,65,66,69,76,32]:Str)++I)++([32,60,32]:Str))++U)++([59,10]:Str))),(ab+1)))))))))else(some (.inr (aa)))
def zhi (p:xrw):(Str×Nat)->Option ((Str×Nat)⊕(Str))
 |(U,aa)=>if(aa:Int)<(p.Lattice.Names.length:Int)then((p.Lattice.Names[aa]?).bind fun I=>need (I.length+6<=281474976710656) (need (I.length+8<=281474976710656) (need (U.length+I.length+8<=281474976710656) (some (.inl ((U++((([76,65,66,69,76,32]:Str)++I)++([59,10]:Str))),(aa+1)))))))else(some (.inr (U)))
def zgv (p:xrw):Option Str:=
 (loop (zhi p) ([],0)).bind (fun ae=>(loop (zhh p) (ae,0)).bind (fun I=>(loop (zhg p) (I,0)).bind (fun U=>(loop (zhf p) (U,0)).bind (fun aa=>(loop (zhe p) (aa,0)).bind (fun ab=>(loop (zhd p) (ab,0)).bind (fun ad=>some ad))))))
def zbm (p:xrw):Option Bool:=
 (zfq p).bind fun I=>if I=true then((zfp p).bind fun U=>if U=true then((zgv p).bind fun aa=>some (decide ((aa.length:Int)<=16384)))else(some false))else(some false)
def zim (I:(List xry)->Option Int) (l:List xry):(Int×Nat)->Option ((Int×Nat)⊕(Int))
 |(ab,aa)=>if(aa:Int)<(l.length:Int)then((l[aa]?).bind fun U=>if U.Kind=4 then((I U.Body).bind fun ad=>(I U.Else).bind fun ae=>some (.inl ((w64 ((w64 (ab+1))+(w64 (ad+ae)))),(aa+1))))else((I U.Body).bind fun af=>(I U.Else).bind fun ai=>some (.inl ((w64 (ab+(w64 (af+ai)))),(aa+1)))))else(some (.inr (ab)))
def zeh (I:(List xry)->Option Int) (l:List xry):Option Int:=
 (loop (zim I l) (0,0)).bind (fun U=>some U)
def zeg:Nat->((List xry)->Option Int)
 |0=>fun _=>none
 |n+1=>zeh (zeg n)
def zsd (n:Nat) (l:List xry):Option Int:=(zeg n) l
def znj (l:List xry):Option Int:=zsd 1000000 l
def zj2 (l:List Int):(Int×Nat)->Option ((Int×Nat)⊕(Int))
 |(U,I)=>if(I:Int)<(l.length:Int)then((l[I]?).bind fun aa=>some (.inl ((w64 (U+aa)),(I+1))))else(some (.inr (U)))
def zhz (l:List Int):Option Int:=
 (loop (zj2 l) (0,0)).bind (fun I=>some I)
def zjd (p:xrw):(Int×Nat)->Option ((Int×Nat)⊕(Bool⊕Int))
 |(U,I)=>if(I:Int)<(p.Tasks.length:Int)then((p.Tasks[I]?).bind fun aa=>(znj aa.Body).bind fun ab=>(zhz aa.Budget).bind fun ad=>if 4096<ad then(some (.inr (.inl (false))))else(some (.inl ((w64 (U+ab)),(I+1)))))else(some (.inr (.inr (U))))
def zgq (p:xrw):Option Bool:=
 (zbm p).bind fun U=>if U=true then(if 64<(p.Lattice.Below.length:Int)then(some false)else((loop (zjd p) (0,0)).bind (fun aa=>match aa with|(.inl ab)=>some ab|(.inr I)=>some (decide (I<=48)))))else(some false)
def ze8 (l:xr4):((List Bool)×Bool×Nat)->Option (((List Bool)×Bool×Nat)⊕((List Bool)×Bool))
 |(I,U,aa)=>if(aa:Int)<(l.Below.length:Int)then((l.Below[aa]?).bind fun ab=>(za6 l ab.a0).bind fun ad=>if ad=true then((za6 l ab.a1).bind fun ae=>if ae=true then((idx I ab.a0).bind fun af=>if af=true then((idx I ab.a1).bind fun ai=>if ai=true then(some (.inl (I,U,(aa+1))))else(some (.inl ((I.set ab.a1.toNat true),true,(aa+1)))))else(some (.inl (I,U,(aa+1)))))else(some (.inl (I,U,(aa+1)))))else(some (.inl (I,U,(aa+1)))))else(some (.inr ((I,U))))
def zdq (l:xr4):((List Bool)×Bool)->Option (((List Bool)×Bool)⊕(List Bool))
 |(I,ab)=>if ab=true then((loop (ze8 l) (I,false,0)).bind (fun(U,aa)=>some (.inl (U,aa))))else(some (.inr (I)))
def zak (l:xr4) (a:Int) (b:Int):Option Bool:=
 (za6 l a).bind fun U=>if U=true then((za6 l b).bind fun aa=>if aa=true then(need (0<=(l.Names.length:Int)/\1*(l.Names.length:Int)<=140737488355328) ((idx (List.replicate l.Names.length false) a).bind fun ad=>(loop (zdq l) (((List.replicate l.Names.length false).set a.toNat true),true)).bind (fun ab=>(idx ab b).bind fun I=>some I)))else(some false))else(some false)
def zdd (l:xr4) (a:Int) (b:Int) (ae:Nat):(Bool×Nat)->Option ((Bool×Nat)⊕(Bool))
 |(U,I)=>if(I:Int)<(l.Names.length:Int)then(if U=true then((zak l a (I:Int)).bind fun aa=>if aa=true then((zak l b (I:Int)).bind fun ab=>if ab=true then((zak l (ae:Int) (I:Int)).bind fun ad=>some (.inl (ad,(I+1))))else(some (.inl (true,(I+1)))))else(some (.inl (true,(I+1)))))else(some (.inr (U))))else(some (.inr (U)))
def zde (l:xr4) (a:Int) (b:Int) (ae:Nat):(Bool×Nat)->Option ((Bool×Nat)⊕(Bool))
 |(U,I)=>if(I:Int)<(l.Names.length:Int)then(if U=true then((zak l a (I:Int)).bind fun aa=>if aa=true then((zak l b (I:Int)).bind fun ab=>if ab=true then((zak l (ae:Int) (I:Int)).bind fun ad=>some (.inl (ad,(I+1))))else(some (.inl (true,(I+1)))))else(some (.inl (true,(I+1)))))else(some (.inr (U))))else(some (.inr (U)))
def zer (l:xr4) (a:Int) (b:Int):Nat->Option ((Nat)⊕(Int⊕Unit))
 |I=>if(I:Int)<(l.Names.length:Int)then((zak l a (I:Int)).bind fun aa=>if aa=true then((zak l b (I:Int)).bind fun ab=>(loop (zde l a b I) (ab,0)).bind (fun ad=>if ad=true then(some (.inr (.inl ((I:Int)))))else(some (.inl (I+1)))))else((loop (zdd l a b I) (false,0)).bind (fun U=>if U=true then(some (.inr (.inl ((I:Int)))))else(some (.inl (I+1))))))else(some (.inr (.inr (()))))
def zcq (l:xr4) (a:Int) (b:Int):Option Int:=
 (loop (zer l a b) 0).bind (fun U=>match U with|(.inl I)=>some I|(.inr ())=>some (-1))
def zdb (l:xr4) (a:Int) (b:Int) (ae:Nat):(Bool×Nat)->Option ((Bool×Nat)⊕(Bool))
 |(U,I)=>if(I:Int)<(l.Names.length:Int)then(if U=true then((zak l (I:Int) a).bind fun aa=>if aa=true then((zak l (I:Int) b).bind fun ab=>if ab=true then((zak l (I:Int) (ae:Int)).bind fun ad=>some (.inl (ad,(I+1))))else(some (.inl (true,(I+1)))))else(some (.inl (true,(I+1)))))else(some (.inr (U))))else(some (.inr (U)))
def zdc (l:xr4) (a:Int) (b:Int) (ae:Nat):(Bool×Nat)->Option ((Bool×Nat)⊕(Bool))
 |(U,I)=>if(I:Int)<(l.Names.length:Int)then(if U=true then((zak l (I:Int) a).bind fun aa=>if aa=true then((zak l (I:Int) b).bind fun ab=>if ab=true then((zak l (I:Int) (ae:Int)).bind fun ad=>some (.inl (ad,(I+1))))else(some (.inl (true,(I+1)))))else(some (.inl (true,(I+1)))))else(some (.inr (U))))else(some (.inr (U)))
def zeq (l:xr4) (a:Int) (b:Int):Nat->Option ((Nat)⊕(Int⊕Unit))
 |I=>if(I:Int)<(l.Names.length:Int)then((zak l (I:Int) a).bind fun aa=>if aa=true then((zak l (I:Int) b).bind fun ab=>(loop (zdc l a b I) (ab,0)).bind (fun ad=>if ad=true then(some (.inr (.inl ((I:Int)))))else(some (.inl (I+1)))))else((loop (zdb l a b I) (false,0)).bind (fun U=>if U=true then(some (.inr (.inl ((I:Int)))))else(some (.inl (I+1))))))else(some (.inr (.inr (()))))
def zev (l:xr4) (a:Int) (b:Int):Option Int:=
 (loop (zeq l a b) 0).bind (fun U=>match U with|(.inl I)=>some I|(.inr ())=>some (-1))
def zcv (l:xr4) (U:Nat) (aa:Str):Nat->Option ((Nat)⊕(Int⊕Unit))
 |I=>if(I:Int)<(U:Int)then((l.Names[I]?).bind fun ab=>if aa=ab then(some (.inr (.inl (4))))else((zak l (U:Int) (I:Int)).bind fun ad=>if ad=true then((zak l (I:Int) (U:Int)).bind fun ae=>if ae=true then(some (.inr (.inl (4))))else((zcq l (U:Int) (I:Int)).bind fun af=>if af<0 then(some (.inr (.inl (4))))else((zev l (U:Int) (I:Int)).bind fun ai=>if ai<0 then(some (.inr (.inl (4))))else(some (.inl (I+1))))))else((zcq l (U:Int) (I:Int)).bind fun aj=>if aj<0 then(some (.inr (.inl (4))))else((zev l (U:Int) (I:Int)).bind fun ak=>if ak<0 then(some (.inr (.inl (4))))else(some (.inl (I+1)))))))else(some (.inr (.inr (()))))
def zd6 (l:xr4):Nat->Option ((Nat)⊕(Int⊕Unit))
 |I=>if(I:Int)<(l.Names.length:Int)then((l.Names[I]?).bind fun U=>if U=[]then(some (.inr (.inl (4))))else((loop (zcv l I U) 0).bind (fun ab=>match ab with|(.inl aa)=>some (.inr (.inl (aa)))|(.inr ())=>some (.inl (I+1)))))else(some (.inr (.inr (()))))
def zd7 (l:xr4):Nat->Option ((Nat)⊕(Int⊕Unit))
 |I=>if(I:Int)<(l.Below.length:Int)then((l.Below[I]?).bind fun U=>(za6 l U.a0).bind fun aa=>if aa=true then((za6 l U.a1).bind fun ab=>if ab=true then(some (.inl (I+1)))else(some (.inr (.inl (4)))))else(some (.inr (.inl (4)))))else(some (.inr (.inr (()))))
def zfx (l:xr4):Option Int:=
 if(l.Names.length:Int)<1 then(some 3)else(if 8<(l.Names.length:Int)then(some 3)else((loop (zd7 l) 0).bind (fun I=>match I with|(.inl aa)=>some aa|(.inr ())=>(loop (zd6 l) 0).bind (fun I=>match I with|(.inl U)=>some U|(.inr ())=>some 0))))
def zh2 (p:xrw) (name:Str):Nat->Option ((Nat)⊕(Int⊕Unit))
 |I=>if(I:Int)<(p.Vars.length:Int)then((p.Vars[I]?).bind fun U=>if U.Name=name then(some (.inr (.inl ((I:Int)))))else(some (.inl (I+1))))else(some (.inr (.inr (()))))
def za5 (p:xrw) (name:Str):Option Int:=
 (loop (zh2 p name) 0).bind (fun I=>match I with|(.inl U)=>some U|(.inr ())=>some (-1))
def zgb (p:xrw) (name:Str):Nat->Option ((Nat)⊕(Int⊕Unit))
 |I=>if(I:Int)<(p.Blocks.length:Int)then((p.Blocks[I]?).bind fun U=>if U.Name=name then(some (.inr (.inl ((I:Int)))))else(some (.inl (I+1))))else(some (.inr (.inr (()))))
def zbw (p:xrw) (name:Str):Option Int:=
 (loop (zgb p name) 0).bind (fun I=>match I with|(.inl U)=>some U|(.inr ())=>some (-1))
def zhc (p:xrw) (name:Str):Nat->Option ((Nat)⊕(Int⊕Unit))
 |I=>if(I:Int)<(p.Sites.length:Int)then((p.Sites[I]?).bind fun U=>if U.Name=name then(some (.inr (.inl ((I:Int)))))else(some (.inl (I+1))))else(some (.inr (.inr (()))))
def zdj (p:xrw) (name:Str):Option Int:=
 (loop (zhc p name) 0).bind (fun I=>match I with|(.inl U)=>some U|(.inr ())=>some (-1))
def ze0 (U:xrw->xrx->Option Bool) (I:xrw->(List xrx)->Option Bool) (p:xrw) (e:xrx):Option Bool:=
 if e.Op=2 then((za5 p e.Name).bind fun aa=>if aa<0 then(some false)else((I p e.Args).bind fun ab=>some ab))else(if e.Op=3 then((za5 p e.Name).bind fun ad=>if ad<0 then(some false)else((I p e.Args).bind fun ae=>some ae))else(if e.Op=4 then((zbw p e.Name).bind fun af=>if af<0 then(some false)else((I p e.Args).bind fun ai=>some ai))else(if e.Op=21 then((zdj p e.Name).bind fun aj=>if aj<0 then(some false)else((I p e.Args).bind fun ak=>some ak))else((I p e.Args).bind fun al=>some al))))
def zf5 (I:xrw->xrx->Option Bool) (p:xrw) (l:List xrx):Nat->Option ((Nat)⊕(Bool⊕Unit))
 |U=>if(U:Int)<(l.length:Int)then((l[U]?).bind fun aa=>(I p aa).bind fun ab=>if ab=true then(some (.inl (U+1)))else(some (.inr (.inl (false)))))else(some (.inr (.inr (()))))
def zel (I:xrw->xrx->Option Bool) (U:xrw->(List xrx)->Option Bool) (p:xrw) (l:List xrx):Option Bool:=
 (loop (zf5 I p l) 0).bind (fun aa=>match aa with|(.inl ab)=>some ab|(.inr ())=>some true)
def zar:Nat->(xrw->xrx->Option Bool)×(xrw->(List xrx)->Option Bool)
 |0=>(fun _ _=>none,fun _ _=>none)
 |n+1=>(ze0 (zar n).1 (zar n).2,zel (zar n).1 (zar n).2)
def ztr (n:Nat) (p:xrw) (e:xrx):Option Bool:=(zar n).1 p e
def zcl (p:xrw) (e:xrx):Option Bool:=ztr 1000000 p e
def zsl (n:Nat) (p:xrw) (l:List xrx):Option Bool:=(zar n).2 p l
def zfn (p:xrw) (l:List xrx):Option Bool:=zsl 1000000 p l
def zf6 (I:xrw->(List xry)->Option Bool) (p:xrw) (l:List xry):Nat->Option ((Nat)⊕(Bool⊕Unit))
 |aa=>if(aa:Int)<(l.length:Int)then((l[aa]?).bind fun U=>if U.Kind=4 then((za5 p U.Name).bind fun au=>if au<0 then(some (.inr (.inl (false))))else(if U.Kind=5 then none else((zcl p U.Target).bind fun av=>if av=true then((zcl p U.Value).bind fun aw=>if aw=true then((zfn p U.Args).bind fun ax=>if ax=true then((I p U.Body).bind fun ay=>if ay=true then((I p U.Else).bind fun ab=>if ab=true then(some (.inl (aa+1)))else(some (.inr (.inl (false)))))else(some (.inr (.inl (false)))))else(some (.inr (.inl (false)))))else(some (.inr (.inl (false)))))else(some (.inr (.inl (false)))))))else(if U.Kind=5 then((zbw p U.Name).bind fun ad=>if ad<0 then(some (.inr (.inl (false))))else((zcl p U.Target).bind fun ae=>if ae=true then((zcl p U.Value).bind fun af=>if af=true then((zfn p U.Args).bind fun ai=>if ai=true then((I p U.Body).bind fun aj=>if aj=true then((I p U.Else).bind fun ak=>if ak=true then(some (.inl (aa+1)))else(some (.inr (.inl (false)))))else(some (.inr (.inl (false)))))else(some (.inr (.inl (false)))))else(some (.inr (.inl (false)))))else(some (.inr (.inl (false))))))else((zcl p U.Target).bind fun al=>if al=true then((zcl p U.Value).bind fun an=>if an=true then((zfn p U.Args).bind fun ao=>if ao=true then((I p U.Body).bind fun aq=>if aq=true then((I p U.Else).bind fun ar=>if ar=true then(some (.inl (aa+1)))else(some (.inr (.inl (false)))))else(some (.inr (.inl (false)))))else(some (.inr (.inl (false)))))else(some (.inr (.inl (false)))))else(some (.inr (.inl (false)))))))else(some (.inr (.inr (()))))
def zen (I:xrw->(List xry)->Option Bool) (p:xrw) (l:List xry):Option Bool:=
 (loop (zf6 I p l) 0).bind (fun aa=>match aa with|(.inl U)=>some U|(.inr ())=>some true)
def zem:Nat->(xrw->(List xry)->Option Bool)
 |0=>fun _ _=>none
 |n+1=>zen (zem n)
def zsm (n:Nat) (p:xrw) (l:List xry):Option Bool:=(zem n) p l
def zko (p:xrw) (l:List xry):Option Bool:=zsm 1000000 p l
def zf7 (p:xrw):Nat->Option ((Nat)⊕(Int⊕Unit))
 |I=>if(I:Int)<(p.Tasks.length:Int)then((p.Tasks[I]?).bind fun U=>(zko p U.Body).bind fun aa=>if aa=true then(some (.inl (I+1)))else(some (.inr (.inl (5)))))else(some (.inr (.inr (()))))
def ziy (U:List Str) (aa:Nat):Nat->Option ((Nat)⊕(Int⊕Unit))
 |I=>if(I:Int)<(aa:Int)then((U[aa]?).bind fun ab=>(U[I]?).bind fun ad=>if ab=ad then(some (.inr (.inl (5))))else(some (.inl (I+1))))else(some (.inr (.inr (()))))
def ziz (U:List Str):Nat->Option ((Nat)⊕(Int⊕Unit))
 |I=>if(I:Int)<(U.length:Int)then((loop (ziy U I) 0).bind (fun ab=>match ab with|(.inl aa)=>some (.inr (.inl (aa)))|(.inr ())=>some (.inl (I+1))))else(some (.inr (.inr (()))))
def zf8 (p:xrw):((List Str)×Nat)->Option (((List Str)×Nat)⊕(List Str))
 |(I,U)=>if(U:Int)<(p.Sites.length:Int)then((p.Sites[U]?).bind fun aa=>need ((I.length+1)*16<=140737488355328) (some (.inl ((I++[aa.Name]),(U+1)))))else(some (.inr (I)))
def zf9 (p:xrw):((List Str)×Nat)->Option (((List Str)×Nat)⊕(List Str))
 |(I,U)=>if(U:Int)<(p.Blocks.length:Int)then((p.Blocks[U]?).bind fun aa=>need ((I.length+1)*16<=140737488355328) (some (.inl ((I++[aa.Name]),(U+1)))))else(some (.inr (I)))
def zga (p:xrw):((List Str)×Nat)->Option (((List Str)×Nat)⊕(List Str))
 |(I,U)=>if(U:Int)<(p.Vars.length:Int)then((p.Vars[U]?).bind fun aa=>need ((I.length+1)*16<=140737488355328) (some (.inl ((I++[aa.Name]),(U+1)))))else(some (.inr (I)))
def zfo (p:xrw):Option Int:=
 (loop (zga p) ([],0)).bind (fun ae=>(loop (zf9 p) (ae,0)).bind (fun U=>(loop (zf8 p) (U,0)).bind (fun aa=>(loop (ziz aa) 0).bind (fun I=>match I with|(.inl ab)=>some ab|(.inr ())=>(loop (zf7 p) 0).bind (fun I=>match I with|(.inl ad)=>some ad|(.inr ())=>some 0)))))
def zdm (kind:Str):Option (List Int):=
 if kind=([84,79,78]:Str)then(some [1,4])else(if kind=([84,79,70]:Str)then(some [1,4])else(if kind=([84,80]:Str)then(some [1,4])else(if kind=([67,84,85]:Str)then(some [1,1,2])else(if kind=([67,84,68]:Str)then(some [1,1,2])else(if kind=([67,84,85,68]:Str)then(some [1,1,1,1,2])else(if kind=([82,95,84,82,73,71]:Str)then(some [1])else(if kind=([70,95,84,82,73,71]:Str)then(some [1])else(if kind=([83,82]:Str)then(some [1,1])else(if kind=([82,83]:Str)then(some [1,1])else(some []))))))))))
def zbk (kind:Str):Option (List Int):=
 if kind=([84,79,78]:Str)then(some [1,4])else(if kind=([84,79,70]:Str)then(some [1,4])else(if kind=([84,80]:Str)then(some [1,4])else(if kind=([67,84,85]:Str)then(some [1,2])else(if kind=([67,84,68]:Str)then(some [1,2])else(if kind=([67,84,85,68]:Str)then(some [1,1,2])else(if kind=([82,95,84,82,73,71]:Str)then(some [1])else(if kind=([70,95,84,82,73,71]:Str)then(some [1])else(if kind=([83,82]:Str)then(some [1])else(if kind=([82,83]:Str)then(some [1])else(some []))))))))))
def zai (op:Int) (kind:Int):Option Int:=
 (za2 kind).bind fun I=>if I=0 then(some 0)else(if op=5 then(if kind=1 then(some 0)else(some kind))else(if 7<=op then(if op<=11 then(if kind=1 then(some 0)else(some kind))else(if op=6 then(if kind=4 then(some 0)else(some kind))else(if 18<=op then(if op<=20 then(if kind=4 then(some 0)else(some kind))else(if op=12 then(some 1)else(if op=13 then(some 1)else(if 14<=op then(if op<=17 then(if kind=1 then(some 0)else(some 1))else(some 0))else(some 0)))))else(if op=12 then(some 1)else(if op=13 then(some 1)else(if 14<=op then(if op<=17 then(if kind=1 then(some 0)else(some 1))else(some 0))else(some 0)))))))else(if op=6 then(if kind=4 then(some 0)else(some kind))else(if 18<=op then(if op<=20 then(if kind=4 then(some 0)else(some kind))else(if op=12 then(some 1)else(if op=13 then(some 1)else(if 14<=op then(if op<=17 then(if kind=1 then(some 0)else(some 1))else(some 0))else(some 0)))))else(if op=12 then(some 1)else(if op=13 then(some 1)else(if 14<=op then(if op<=17 then(if kind=1 then(some 0)else(some 1))else(some 0))else(some 0))))))))
def zaq (I:xrw->xrx->Option Int) (p:xrw) (e:xrx):Option Int:=
 if e.Op=1 then(some e.Kind)else(if e.Op=2 then((za5 p e.Name).bind fun aa=>if aa<0 then(some 0)else((idx p.Vars aa).bind fun ab=>if((decide (0<ab.Type_.Len))==(decide (e.Op=3)))=true then(if e.Op=3 then none else(some ab.Type_.Kind))else(some 0)))else(if e.Op=3 then((za5 p e.Name).bind fun ad=>if ad<0 then(some 0)else((idx p.Vars ad).bind fun ae=>if 0<ae.Type_.Len then((e.Args[0]?).bind fun aw=>(I p aw).bind fun ax=>if ax=2 then(some ae.Type_.Kind)else(some 0))else(some 0)))else(if e.Op=4 then((zbw p e.Name).bind fun af=>if af<0 then(some 0)else((idx p.Blocks af).bind fun ay=>(zbk ay.Kind).bind fun ai=>if e.N<0 then(some 0)else(if(ai.length:Int)<=e.N then(some 0)else((idx ai e.N).bind fun aj=>some aj))))else(if e.Op=21 then((zdj p e.Name).bind fun ak=>if ak<0 then(some 0)else((e.Args[0]?).bind fun al=>(I p al).bind fun an=>some an))else((e.Args[0]?).bind fun ao=>(I p ao).bind fun U=>if 1<(e.Args.length:Int)then((e.Args[1]?).bind fun aq=>(I p aq).bind fun ar=>if ar=U then((zai e.Op U).bind fun au=>some au)else(some 0))else((zai e.Op U).bind fun av=>some av))))))
def zan:Nat->(xrw->xrx->Option Int)
 |0=>fun _ _=>none
 |n+1=>zaq (zan n)
def ztq (n:Nat) (p:xrw) (e:xrx):Option Int:=(zan n) p e
def zam (p:xrw) (e:xrx):Option Int:=ztq 1000000 p e
def zha (I:(List xry)->Str->Option Bool) (l:List xry) (name:Str):Nat->Option ((Nat)⊕(Bool⊕Unit))
 |aa=>if(aa:Int)<(l.length:Int)then((l[aa]?).bind fun U=>if U.Kind=1 then(if U.Target.Name=name then(some (.inr (.inl (true))))else(if U.Kind=4 then none else((I U.Body name).bind fun ad=>if ad=true then(some (.inr (.inl (true))))else((I U.Else name).bind fun ae=>if ae=true then(some (.inr (.inl (true))))else(some (.inl (aa+1)))))))else(if U.Kind=4 then(if U.Name=name then(some (.inr (.inl (true))))else((I U.Body name).bind fun af=>if af=true then(some (.inr (.inl (true))))else((I U.Else name).bind fun ai=>if ai=true then(some (.inr (.inl (true))))else(some (.inl (aa+1))))))else((I U.Body name).bind fun aj=>if aj=true then(some (.inr (.inl (true))))else((I U.Else name).bind fun ab=>if ab=true then(some (.inr (.inl (true))))else(some (.inl (aa+1)))))))else(some (.inr (.inr (()))))
def zez (I:(List xry)->Str->Option Bool) (l:List xry) (name:Str):Option Bool:=
 (loop (zha I l name) 0).bind (fun aa=>match aa with|(.inl U)=>some U|(.inr ())=>some false)
def zey:Nat->((List xry)->Str->Option Bool)
 |0=>fun _ _=>none
 |n+1=>zez (zey n)
def zto (n:Nat) (l:List xry) (name:Str):Option Bool:=(zey n) l name
def zgs (l:List xry) (name:Str):Option Bool:=zto 1000000 l name
def zgt (p:xrw) (s:xry):Option Bool:=
 (za5 p s.Name).bind fun U=>if U<0 then(some false)else((idx p.Vars U).bind fun I=>if I.Mode=0 then(if I.Type_.Len=0 then(if I.Type_.Kind=2 then((s.Args[0]?).bind fun ae=>(zam p ae).bind fun af=>if af=I.Type_.Kind then((s.Args[1]?).bind fun ai=>(zam p ai).bind fun aj=>if aj=I.Type_.Kind then((zgs s.Body s.Name).bind fun ak=>some (!ak))else(some false))else(some false))else(if I.Type_.Kind=3 then((s.Args[0]?).bind fun al=>(zam p al).bind fun an=>if an=I.Type_.Kind then((s.Args[1]?).bind fun aa=>(zam p aa).bind fun ab=>if ab=I.Type_.Kind then((zgs s.Body s.Name).bind fun ad=>some (!ad))else(some false))else(some false))else(some false)))else(some false))else(some false))
def zjj (p:xrw) (s:xry) (U:(List Int)):Nat->Option ((Nat)⊕(Bool⊕Unit))
 |I=>if(I:Int)<(U.length:Int)then((s.Args[I]?).bind fun aa=>(zam p aa).bind fun ab=>(U[I]?).bind fun ad=>if ab=ad then(some (.inl (I+1)))else(some (.inr (.inl (false)))))else(some (.inr (.inr (()))))
def zgu (p:xrw) (s:xry):Option Bool:=
 (zbw p s.Name).bind fun I=>if I<0 then(some false)else((idx p.Blocks I).bind fun ab=>(zdm ab.Kind).bind fun U=>if(U.length:Int)=(s.Args.length:Int)then((loop (zjj p s U) 0).bind (fun ad=>match ad with|(.inl aa)=>some aa|(.inr ())=>some true))else(some false))
def zfe (p:xrw) (s:xry):Option Bool:=
 if s.Kind=1 then((za5 p s.Target.Name).bind fun I=>(zam p s.Target).bind fun U=>if 0<=I then((idx p.Vars I).bind fun aa=>if aa.Mode=1 then(some false)else(if U=0 then(some false)else((zam p s.Value).bind fun ab=>some (decide (U=ab)))))else(some false))else(if s.Kind=2 then((zam p s.Value).bind fun ad=>some (decide (ad=1)))else(if s.Kind=3 then((zam p s.Value).bind fun ae=>some (decide (ae=1)))else(if s.Kind=4 then((zgt p s).bind fun af=>some af)else((zgu p s).bind fun ai=>some ai))))
def zf4 (I:xrw->(List xry)->Option Bool) (p:xrw) (l:List xry):Nat->Option ((Nat)⊕(Bool⊕Unit))
 |U=>if(U:Int)<(l.length:Int)then((l[U]?).bind fun aa=>(zfe p aa).bind fun ab=>if ab=true then((I p aa.Body).bind fun ad=>if ad=true then((I p aa.Else).bind fun ae=>if ae=true then(some (.inl (U+1)))else(some (.inr (.inl (false)))))else(some (.inr (.inl (false)))))else(some (.inr (.inl (false)))))else(some (.inr (.inr (()))))
def zcd (I:xrw->(List xry)->Option Bool) (p:xrw) (l:List xry):Option Bool:=
 (loop (zf4 I p l) 0).bind (fun U=>match U with|(.inl aa)=>some aa|(.inr ())=>some true)
def zc6:Nat->(xrw->(List xry)->Option Bool)
 |0=>fun _ _=>none
 |n+1=>zcd (zc6 n)
def zsk (n:Nat) (p:xrw) (l:List xry):Option Bool:=(zc6 n) p l
def zcz (p:xrw) (l:List xry):Option Bool:=zsk 1000000 p l
def zdy (p:xrw):Nat->Option ((Nat)⊕(Int⊕Unit))
 |I=>if(I:Int)<(p.Tasks.length:Int)then((p.Tasks[I]?).bind fun U=>(zcz p U.Body).bind fun aa=>if aa=true then(some (.inl (I+1)))else(some (.inr (.inl (6)))))else(some (.inr (.inr (()))))
def zdz (p:xrw):Nat->Option ((Nat)⊕(Int⊕Unit))
 |I=>if(I:Int)<(p.Blocks.length:Int)then((p.Blocks[I]?).bind fun U=>(zdm U.Kind).bind fun aa=>if(aa.length:Int)=0 then(some (.inr (.inl (6))))else(some (.inl (I+1))))else(some (.inr (.inr (()))))
def zd0 (p:xrw):Nat->Option ((Nat)⊕(Int⊕Unit))
 |U=>if(U:Int)<(p.Vars.length:Int)then((p.Vars[U]?).bind fun I=>(zbx I.Type_).bind fun aa=>if aa=0 then(if I.Mode=0 then((zav I.Type_.Kind I.Safe).bind fun ab=>if ab=true then(some (.inl (U+1)))else(some (.inr (.inl (6)))))else(if I.Type_.Len=0 then((zav I.Type_.Kind I.Safe).bind fun ad=>if ad=true then(some (.inl (U+1)))else(some (.inr (.inl (6)))))else(some (.inr (.inl (6))))))else(some (.inr (.inl (6)))))else(some (.inr (.inr (()))))
def zbe (p:xrw):Option Int:=
 (loop (zd0 p) 0).bind (fun I=>match I with|(.inl ab)=>some ab|(.inr ())=>(loop (zdz p) 0).bind (fun I=>match I with|(.inl U)=>some U|(.inr ())=>(loop (zdy p) 0).bind (fun I=>match I with|(.inl aa)=>some aa|(.inr ())=>some 0)))
def zj6 (p:xrw):((List Int)×Nat)->Option (((List Int)×Nat)⊕(List Int))
 |(I,U)=>if(U:Int)<(p.Sites.length:Int)then((p.Sites[U]?).bind fun aa=>need ((I.length+2)*8<=140737488355328) (some (.inl ((I++[aa.From,aa.To]),(U+1)))))else(some (.inr (I)))
def zj7 (p:xrw) (labels:List Int):((List Int)×Nat)->Option (((List Int)×Nat)⊕(List Int))
 |(I,U)=>if(U:Int)<(w64 ((p.Vars.length:Int)+(p.Blocks.length:Int)))then(if(U:Int)<(labels.length:Int)then((labels[U]?).bind fun aa=>need ((I.length+1)*8<=140737488355328) (some (.inl ((I++[aa]),(U+1)))))else(need ((I.length+1)*8<=140737488355328) (some (.inl ((I++[(-1)]),(U+1))))))else(some (.inr (I)))
def zc3 (p:xrw) (labels:List Int):Option (List Int):=
 (loop (zj7 p labels) ([],0)).bind (fun U=>(loop (zj6 p) (U,0)).bind (fun I=>some I))
def zch (l:xr4) (aa:Nat):(Bool×Nat)->Option ((Bool×Nat)⊕(Bool))
 |(I,U)=>if(U:Int)<(l.Names.length:Int)then(if I=true then((zak l (aa:Int) (U:Int)).bind fun ab=>some (.inl (ab,(U+1))))else(some (.inr (I))))else(some (.inr (I)))
def zdr (l:xr4):Nat->Option ((Nat)⊕(Int⊕Unit))
 |I=>if(I:Int)<(l.Names.length:Int)then((loop (zch l I) (true,0)).bind (fun U=>if U=true then(some (.inr (.inl ((I:Int)))))else(some (.inl (I+1)))))else(some (.inr (.inr (()))))
def zds (l:xr4):Option Int:=
 (loop (zdr l) 0).bind (fun U=>match U with|(.inl I)=>some I|(.inr ())=>some (-1))
def zgk (l:xr4) (labels:List Int) (rules:List (A2 Int)):Nat->Option ((Nat)⊕(Bool⊕Unit))
 |U=>if(U:Int)<(rules.length:Int)then((rules[U]?).bind fun I=>if I.a0<0 then(some (.inr (.inl (false))))else(if(labels.length:Int)<=I.a0 then(some (.inr (.inl (false))))else(if I.a1<0 then(some (.inr (.inl (false))))else(if(labels.length:Int)<=I.a1 then(some (.inr (.inl (false))))else((idx labels I.a0).bind fun aa=>(idx labels I.a1).bind fun ab=>(zak l aa ab).bind fun ad=>if ad=true then(some (.inl (U+1)))else(some (.inr (.inl (false)))))))))else(some (.inr (.inr (()))))
def zfw (l:xr4) (labels:List Int) (rules:List (A2 Int)):Option Bool:=
 (loop (zgk l labels rules) 0).bind (fun I=>match I with|(.inl U)=>some U|(.inr ())=>some true)
def zb9 (l:xr4) (fixed:List Int) (rules:List (A2 Int)):((List Int)×Bool×Nat)->Option (((List Int)×Bool×Nat)⊕(((List Int)×Bool)⊕((List Int)×Bool)))
 |(I,U,aa)=>if(aa:Int)<(rules.length:Int)then((rules[aa]?).bind fun ab=>(idx I ab.a0).bind fun ad=>(idx I ab.a1).bind fun ae=>(zak l ad ae).bind fun ai=>if ai=true then(some (.inl (I,U,(aa+1))))else((idx fixed ab.a1).bind fun aj=>if aj=(-1)then((zcq l ad ae).bind fun af=>if af<0 then(some (.inr (.inl (([],false)))))else(some (.inl ((I.set ab.a1.toNat af),true,(aa+1)))))else(some (.inl (I,U,(aa+1))))))else(some (.inr (.inr ((I,U)))))
def zcu (l:xr4) (fixed:List Int) (rules:List (A2 Int)):((List Int)×Bool)->Option (((List Int)×Bool)⊕(((List Int)×Bool)⊕(List Int)))
 |(I,U)=>if U=true then((loop (zb9 l fixed rules) (I,false,0)).bind (fun ae=>match ae with|(.inl ad)=>some (.inr (.inl (ad)))|(.inr (ab,aa))=>some (.inl (ab,aa))))else(some (.inr (.inr (I))))
def zd4 (rules:List (A2 Int)) (U:List Int):Nat->Option ((Nat)⊕(((List Int)×Bool)⊕Unit))
 |aa=>if(aa:Int)<(rules.length:Int)then((rules[aa]?).bind fun I=>if I.a0<0 then(some (.inr (.inl (([],false)))))else(if(U.length:Int)<=I.a0 then(some (.inr (.inl (([],false)))))else(if I.a1<0 then(some (.inr (.inl (([],false)))))else(if(U.length:Int)<=I.a1 then(some (.inr (.inl (([],false)))))else(some (.inl (aa+1)))))))else(some (.inr (.inr (()))))
def zd5 (l:xr4) (fixed:List Int) (ab:Int):((List Int)×Nat)->Option (((List Int)×Nat)⊕(((List Int)×Bool)⊕(List Int)))
 |(I,U)=>if(U:Int)<(fixed.length:Int)then((fixed[U]?).bind fun aa=>if aa=(-1)then((za6 l ab).bind fun ae=>if ae=true then(need ((I.length+1)*8<=140737488355328) (some (.inl ((I++[ab]),(U+1)))))else(some (.inr (.inl (([],false))))))else((za6 l aa).bind fun ad=>if ad=true then(need ((I.length+1)*8<=140737488355328) (some (.inl ((I++[aa]),(U+1)))))else(some (.inr (.inl (([],false)))))))else(some (.inr (.inr (I))))
def zfv (l:xr4) (fixed:List Int) (rules:List (A2 Int)):Option ((List Int)×Bool):=
 (zds l).bind fun ab=>if ab<0 then(some ([],false))else((loop (zd5 l fixed ab) ([],0)).bind (fun I=>match I with|(.inl ad)=>some ad|(.inr U)=>(loop (zd4 rules U) 0).bind (fun I=>match I with|(.inl ae)=>some ae|(.inr ())=>(loop (zcu l fixed rules) (U,true)).bind (fun I=>match I with|(.inl af)=>some af|(.inr aa)=>(zfw l aa rules).bind fun ai=>if ai=true then(some (aa,true))else(some ([],false))))))
def zje (p:xrw):((List Int)×Nat)->Option (((List Int)×Nat)⊕(List Int))
 |(I,U)=>if(U:Int)<(p.Blocks.length:Int)then((p.Blocks[U]?).bind fun aa=>need ((I.length+1)*8<=140737488355328) (some (.inl ((I++[aa.Label]),(U+1)))))else(some (.inr (I)))
def zjf (p:xrw):((List Int)×Nat)->Option (((List Int)×Nat)⊕(List Int))
 |(I,U)=>if(U:Int)<(p.Vars.length:Int)then((p.Vars[U]?).bind fun aa=>need ((I.length+1)*8<=140737488355328) (some (.inl ((I++[aa.Label]),(U+1)))))else(some (.inr (I)))
def zgr (p:xrw):Option (List Int):=
 (loop (zjf p) ([],0)).bind (fun U=>(loop (zje p) (U,0)).bind (fun I=>some I))
def zgm (p:xrw) (i:Int):Option Int:=
 some (w64 ((w64 ((w64 ((p.Vars.length:Int)+(p.Blocks.length:Int)))+(w64 (2*i))))+1))
def zj4 (I:xrw->xrx->Option (List Int)) (p:xrw) (e:xrx):((List Int)×Nat)->Option (((List Int)×Nat)⊕(List Int))
 |(U,aa)=>if(aa:Int)<(e.Args.length:Int)then((e.Args[aa]?).bind fun ad=>(I p ad).bind fun ab=>need ((U.length+ab.length)*8<=140737488355328) (some (.inl ((U++ab),(aa+1)))))else(some (.inr (U)))
def zj5 (I:xrw->xrx->Option (List Int)) (p:xrw) (e:xrx):((List Int)×Nat)->Option (((List Int)×Nat)⊕(List Int))
 |(U,aa)=>if(aa:Int)<(e.Args.length:Int)then((e.Args[aa]?).bind fun ad=>(I p ad).bind fun ab=>need ((U.length+ab.length)*8<=140737488355328) (some (.inl ((U++ab),(aa+1)))))else(some (.inr (U)))
def zcy (I:xrw->xrx->Option (List Int)) (p:xrw) (e:xrx):Option (List Int):=
 if e.Op=2 then((za5 p e.Name).bind fun ab=>some [ab])else(if e.Op=4 then((zbw p e.Name).bind fun ad=>some [(w64 ((p.Vars.length:Int)+ad))])else(if e.Op=21 then((zdj p e.Name).bind fun ae=>(zgm p ae).bind fun af=>some [af])else(if e.Op=3 then((za5 p e.Name).bind fun ai=>(loop (zj5 I p e) ([ai],0)).bind (fun U=>some U))else((loop (zj4 I p e) ([],0)).bind (fun aa=>some aa)))))
def zay:Nat->(xrw->xrx->Option (List Int))
 |0=>fun _ _=>none
 |n+1=>zcy (zay n)
def zuu (n:Nat) (p:xrw) (e:xrx):Option (List Int):=(zay n) p e
def zc2 (p:xrw) (e:xrx):Option (List Int):=zuu 1000000 p e
def zjh (b:List Int) (U:List Int) (ab:Nat):(Bool×Nat)->Option ((Bool×Nat)⊕(Bool))
 |(I,aa)=>if(aa:Int)<(U.length:Int)then(if I=true then(some (.inr (I)))else((U[aa]?).bind fun ad=>(b[ab]?).bind fun ae=>some (.inl ((decide (ad=ae)),(aa+1)))))else(some (.inr (I)))
def zl5 (b:List Int):((List Int)×Nat)->Option (((List Int)×Nat)⊕(List Int))
 |(I,U)=>if(U:Int)<(b.length:Int)then((loop (zjh b I U) (false,0)).bind (fun aa=>if aa=true then(some (.inl (I,(U+1))))else((b[U]?).bind fun ab=>need ((I.length+1)*8<=140737488355328) (some (.inl ((I++[ab]),(U+1)))))))else(some (.inr (I)))
def zji (b:List Int) (U:List Int) (ae:Nat):(Bool×Nat)->Option ((Bool×Nat)⊕(Bool))
 |(I,aa)=>if(aa:Int)<(U.length:Int)then(if I=true then(some (.inr (I)))else((U[aa]?).bind fun ab=>(b[ae]?).bind fun ad=>some (.inl ((decide (ab=ad)),(aa+1)))))else(some (.inr (I)))
def zl6 (b:List Int):((List Int)×Nat)->Option (((List Int)×Nat)⊕(List Int))
 |(I,U)=>if(U:Int)<(b.length:Int)then((loop (zji b I U) (false,0)).bind (fun ab=>if ab=true then(some (.inl (I,(U+1))))else((b[U]?).bind fun aa=>need ((I.length+1)*8<=140737488355328) (some (.inl ((I++[aa]),(U+1)))))))else(some (.inr (I)))
def zbi (a:List Int) (b:List Int):Option (List Int):=
 if a.isEmpty=true then((loop (zl6 b) ([],0)).bind (fun U=>some U))else(need (a.length*8<=140737488355328) ((loop (zl5 b) (a,0)).bind (fun I=>some I)))
def zj3 (l:List (A2 Int)) (x:A2 Int):Nat->Option ((Nat)⊕(Nat))
 |I=>if(I:Int)<(l.length:Int)then((l[I]?).bind fun U=>if U.a0<x.a0 then(some (.inl (I+1)))else(if U.a0=x.a0 then(if U.a1<x.a1 then(some (.inl (I+1)))else(some (.inr (I))))else(some (.inr (I)))))else(some (.inr (I)))
def zh0 (l:List (A2 Int)) (x:A2 Int):Option (List (A2 Int)):=
 if x.a0=x.a1 then(some l)else((loop (zj3 l x) 0).bind (fun I=>if(I:Int)<(l.length:Int)then((l[I]?).bind fun U=>if U.a0=x.a0/\U.a1=x.a1 then(some l)else(need (0<=0/\0<=(I:Int)/\(I:Int)<=l.length) (if(l.take I).isEmpty=true then(need (0<=(I:Int)/\(I:Int)<=(l.length:Int)/\(l.length:Int)<=l.length) (need ((1+(l.drop I).length)*16<=140737488355328) (some ([x]++(l.drop I)))))else(need ((l.take I).length*16<=140737488355328) (need (((l.take I).length+1)*16<=140737488355328) (need (0<=(I:Int)/\(I:Int)<=(l.length:Int)/\(l.length:Int)<=l.length) (need (((l.take I).length+1+(l.drop I).length)*16<=140737488355328) (some (((l.take I)++[x])++(l.drop I))))))))))else(need (0<=0/\0<=(I:Int)/\(I:Int)<=l.length) (if(l.take I).isEmpty=true then(need (0<=(I:Int)/\(I:Int)<=(l.length:Int)/\(l.length:Int)<=l.length) (need ((1+(l.drop I).length)*16<=140737488355328) (some ([x]++(l.drop I)))))else(need ((l.take I).length*16<=140737488355328) (need (((l.take I).length+1)*16<=140737488355328) (need (0<=(I:Int)/\(I:Int)<=(l.length:Int)/\(l.length:Int)<=l.length) (need (((l.take I).length+1+(l.drop I).length)*16<=140737488355328) (some (((l.take I)++[x])++(l.drop I)))))))))))
def zjg (from_:List Int) (y:Int):((List (A2 Int))×Nat)->Option (((List (A2 Int))×Nat)⊕(List (A2 Int)))
 |(U,I)=>if(I:Int)<(from_.length:Int)then((from_[I]?).bind fun aa=>(zh0 U (⟨aa,y⟩:A2 Int)).bind fun ab=>some (.inl (ab,(I+1))))else(some (.inr (U)))
def zb7 (l:List (A2 Int)) (from_:List Int) (y:Int):Option (List (A2 Int)):=
 (loop (zjg from_ y) (l,0)).bind (fun I=>some I)
def zlr (I:xrw->(List (A2 Int))->xrx->(List Int)->Option (List (A2 Int))) (p:xrw) (e:xrx) (aa:List Int):((List (A2 Int))×Nat)->Option (((List (A2 Int))×Nat)⊕(List (A2 Int)))
 |(ab,U)=>if(U:Int)<(e.Args.length:Int)then((e.Args[U]?).bind fun ad=>(I p ab ad aa).bind fun ae=>some (.inl (ae,(U+1))))else(some (.inr (ab)))
def zls (I:xrw->(List (A2 Int))->xrx->(List Int)->Option (List (A2 Int))) (p:xrw) (e:xrx) (U:List Int):((List (A2 Int))×Nat)->Option (((List (A2 Int))×Nat)⊕(List (A2 Int)))
 |(ab,aa)=>if(aa:Int)<(e.Args.length:Int)then((e.Args[aa]?).bind fun ad=>(I p ab ad U).bind fun ae=>some (.inl (ae,(aa+1))))else(some (.inr (ab)))
def zej (I:xrw->(List (A2 Int))->xrx->(List Int)->Option (List (A2 Int))) (p:xrw) (l:List (A2 Int)) (e:xrx) (U:List Int):Option (List (A2 Int)):=
 if e.Op=21 then((zdj p e.Name).bind fun ad=>(zgm p ad).bind fun aa=>(e.Args[0]?).bind fun ae=>(zc2 p ae).bind fun af=>(zb7 l af (w64 (aa-1))).bind fun ai=>(zb7 ai U aa).bind fun aj=>(loop (zls I p e U) (aj,0)).bind (fun ak=>some ak))else((loop (zlr I p e U) (l,0)).bind (fun ab=>some ab))
def zcb:Nat->(xrw->(List (A2 Int))->xrx->(List Int)->Option (List (A2 Int)))
 |0=>fun _ _ _ _=>none
 |n+1=>zej (zcb n)
def zsh (n:Nat) (p:xrw) (l:List (A2 Int)) (e:xrx) (I:List Int):Option (List (A2 Int)):=(zcb n) p l e I
def zfk (p:xrw) (l:List (A2 Int)) (e:xrx) (I:List Int):Option (List (A2 Int)):=zsh 1000000 p l e I
def zit (p:xrw) (t:List xrx) (I:List Int):((List (A2 Int))×(List Int)×Nat)->Option (((List (A2 Int))×(List Int)×Nat)⊕((List (A2 Int))×(List Int)))
 |(aa,h_2,U)=>if(U:Int)<(t.length:Int)then((t[U]?).bind fun ab=>(zfk p aa ab I).bind fun ad=>(zc2 p ab).bind fun ae=>(zbi h_2 ae).bind fun af=>some (.inl (ad,af,(U+1))))else(some (.inr ((aa,h_2))))
def zcx (p:xrw) (l:List (A2 Int)) (t:List xrx) (I:List Int):Option ((List (A2 Int))×(List Int)):=
 (loop (zit p t I) (l,[],0)).bind (fun(U,aa)=>some (U,aa))
def zfl (s:xry):Option (List xrx):=
 if s.Target.Op=3 then((s.Target.Args[0]?).bind fun I=>some [I,s.Value])else(some [s.Value])
def ziu (I:xrw->(List (A2 Int))->(List xry)->(List Int)->Option (List (A2 Int))) (p:xrw) (s:List xry) (U:List Int):((List (A2 Int))×Nat)->Option (((List (A2 Int))×Nat)⊕(List (A2 Int)))
 |(ad,ab)=>if(ab:Int)<(s.length:Int)then((s[ab]?).bind fun aa=>if aa.Kind=1 then((zfl aa).bind fun aG=>(zcx p ad aG U).bind fun al=>(zbi al.2 U).bind fun aH=>(za5 p aa.Target.Name).bind fun aI=>(zb7 al.1 aH aI).bind fun an=>some (.inl (an,(ab+1))))else(if aa.Kind=2 then((zc2 p aa.Value).bind fun ao=>(zbi U ao).bind fun af=>if aa.Kind=3 then none else((zfk p ad aa.Value U).bind fun aq=>(I p aq aa.Body af).bind fun ar=>(I p ar aa.Else af).bind fun au=>some (.inl (au,(ab+1)))))else(if aa.Kind=3 then((zc2 p aa.Value).bind fun av=>(zbi U av).bind fun ae=>(zfk p ad aa.Value ae).bind fun aw=>(I p aw aa.Body ae).bind fun ax=>(I p ax aa.Else ae).bind fun ay=>some (.inl (ay,(ab+1))))else(if aa.Kind=4 then((za5 p aa.Name).bind fun ai=>(zcx p ad aa.Args U).bind fun aj=>(zbi aj.2 U).bind fun az=>(zb7 aj.1 az ai).bind fun aA=>(zbi U [ai]).bind fun aB=>(I p aA aa.Body aB).bind fun aC=>some (.inl (aC,(ab+1))))else(if aa.Kind=5 then((zcx p ad aa.Args U).bind fun ak=>(zbi ak.2 U).bind fun aD=>(zbw p aa.Name).bind fun aE=>(zb7 ak.1 aD (w64 ((p.Vars.length:Int)+aE))).bind fun aF=>some (.inl (aF,(ab+1))))else(some (.inl (ad,(ab+1)))))))))else(some (.inr (ad)))
def zei (I:xrw->(List (A2 Int))->(List xry)->(List Int)->Option (List (A2 Int))) (p:xrw) (l:List (A2 Int)) (s:List xry) (U:List Int):Option (List (A2 Int)):=
 (loop (ziu I p s U) (l,0)).bind (fun aa=>some aa)
def zc5:Nat->(xrw->(List (A2 Int))->(List xry)->(List Int)->Option (List (A2 Int)))
 |0=>fun _ _ _ _=>none
 |n+1=>zei (zc5 n)
def zsg (n:Nat) (p:xrw) (l:List (A2 Int)) (s:List xry) (I:List Int):Option (List (A2 Int)):=(zc5 n) p l s I
def znl (p:xrw) (l:List (A2 Int)) (s:List xry) (I:List Int):Option (List (A2 Int)):=zsg 1000000 p l s I
def ziw (p:xrw):((List (A2 Int))×Nat)->Option (((List (A2 Int))×Nat)⊕(List (A2 Int)))
 |(U,I)=>if(I:Int)<(p.Tasks.length:Int)then((p.Tasks[I]?).bind fun aa=>(znl p U aa.Body []).bind fun ab=>some (.inl (ab,(I+1))))else(some (.inr (U)))
def zfm (p:xrw):Option (List (A2 Int)):=
 (loop (ziw p) ([],0)).bind (fun I=>some I)
def zbl (p:xrw):Option ((List Int)×Int):=
 (zgr p).bind fun U=>(zc3 p U).bind fun aa=>(zfm p).bind fun ab=>(zfv p.Lattice aa ab).bind fun I=>if I.2=true then(need (0<=0/\0<=(w64 ((p.Vars.length:Int)+(p.Blocks.length:Int)))/\(w64 ((p.Vars.length:Int)+(p.Blocks.length:Int)))<=I.1.length) (some ((I.1.take (w64 ((p.Vars.length:Int)+(p.Blocks.length:Int))).toNat),0)))else(some ([],7))
def zlo (ae:(List Int)×Int) (ab:List xr7):((List xr9)×Nat)->Option (((List xr9)×Nat)⊕(List xr9))
 |(I,U)=>if(U:Int)<(I.length:Int)then((idx ae.1 (w64 ((ab.length:Int)+(U:Int)))).bind fun ad=>(I[U]?).bind fun aa=>some (.inl ((I.set U (⟨aa.Name,aa.Kind,ad⟩:xr9)),(U+1))))else(some (.inr (I)))
def zlp (ad:(List Int)×Int):((List xr7)×Nat)->Option (((List xr7)×Nat)⊕(List xr7))
 |(I,U)=>if(U:Int)<(I.length:Int)then((ad.1[U]?).bind fun ab=>(I[U]?).bind fun aa=>some (.inl ((I.set U (⟨aa.Name,aa.Type_,aa.Mode,ab,aa.Safe⟩:xr7)),(U+1))))else(some (.inr (I)))
def zin (aa:(List Int)×Int) (U:List xr7):Int->Option ((Int)⊕(Unit))
 |I=>if I<0 then((idx aa.1 (w64 ((U.length:Int)+I))).bind fun ab=>none)else(some (.inr (())))
def zlq (ad:(List Int)×Int):((List xr7)×Nat)->Option (((List xr7)×Nat)⊕(List xr7))
 |(I,U)=>if(U:Int)<(I.length:Int)then((ad.1[U]?).bind fun ab=>(I[U]?).bind fun aa=>some (.inl ((I.set U (⟨aa.Name,aa.Type_,aa.Mode,ab,aa.Safe⟩:xr7)),(U+1))))else(some (.inr (I)))
def zio (ad:(List Int)×Int):((List xr9)×Nat)->Option (((List xr9)×Nat)⊕(List xr9))
 |(I,U)=>if(U:Int)<(I.length:Int)then((idx ad.1 (w64 (0+(U:Int)))).bind fun ab=>(I[U]?).bind fun aa=>some (.inl ((I.set U (⟨aa.Name,aa.Kind,ab⟩:xr9)),(U+1))))else(some (.inr (I)))
def zip (U:(List Int)×Int):Int->Option ((Int)⊕(Unit))
 |I=>if I<0 then((idx U.1 I).bind fun aa=>none)else(some (.inr (())))
def ziq (U:(List Int)×Int):Int->Option ((Int)⊕(Unit))
 |I=>if I<0 then((idx U.1 (w64 (0+I))).bind fun aa=>none)else(some (.inr (())))
def zir (U:(List Int)×Int):Int->Option ((Int)⊕(Unit))
 |I=>if I<0 then((idx U.1 I).bind fun aa=>none)else(some (.inr (())))
def zfj (p:xrw):Option (xrw×Int):=
 (zgq p).bind fun ao=>if ao=true then((zfx p.Lattice).bind fun ae=>if ae=0 then((zfo p).bind fun af=>if af=0 then((zbe p).bind fun ai=>if ai=0 then((zbl p).bind fun I=>if I.2=0 then(if p.Vars.isEmpty=true then(if p.Blocks.isEmpty=true then((loop (zir I) 0).bind (fun _=>(loop (ziq I) 0).bind (fun _=>(zbm (⟨p.Lattice,p.Sites,[],[],p.Tasks⟩:xrw)).bind fun aj=>if aj=true then(some ((⟨p.Lattice,p.Sites,[],[],p.Tasks⟩:xrw),0))else(some ((⟨(⟨[],[]⟩:xr4),[],[],[],[]⟩:xrw),3)))))else(need (p.Blocks.length*40<=140737488355328) ((loop (zip I) 0).bind (fun _=>(loop (zio I) (p.Blocks,0)).bind (fun ab=>(zbm (⟨p.Lattice,p.Sites,[],ab,p.Tasks⟩:xrw)).bind fun ak=>if ak=true then(some ((⟨p.Lattice,p.Sites,[],ab,p.Tasks⟩:xrw),0))else(some ((⟨(⟨[],[]⟩:xr4),[],[],[],[]⟩:xrw),3)))))))else(need (p.Vars.length*64<=140737488355328) (if p.Blocks.isEmpty=true then((loop (zlq I) (p.Vars,0)).bind (fun U=>(loop (zin I U) 0).bind (fun _=>(zbm (⟨p.Lattice,p.Sites,U,[],p.Tasks⟩:xrw)).bind fun al=>if al=true then(some ((⟨p.Lattice,p.Sites,U,[],p.Tasks⟩:xrw),0))else(some ((⟨(⟨[],[]⟩:xr4),[],[],[],[]⟩:xrw),3)))))else(need (p.Blocks.length*40<=140737488355328) ((loop (zlp I) (p.Vars,0)).bind (fun aa=>(loop (zlo I aa) (p.Blocks,0)).bind (fun ad=>(zbm (⟨p.Lattice,p.Sites,aa,ad,p.Tasks⟩:xrw)).bind fun an=>if an=true then(some ((⟨p.Lattice,p.Sites,aa,ad,p.Tasks⟩:xrw),0))else(some ((⟨(⟨[],[]⟩:xr4),[],[],[],[]⟩:xrw),3)))))))))else(some ((⟨(⟨[],[]⟩:xr4),[],[],[],[]⟩:xrw),I.2)))else(some ((⟨(⟨[],[]⟩:xr4),[],[],[],[]⟩:xrw),ai)))else(some ((⟨(⟨[],[]⟩:xr4),[],[],[],[]⟩:xrw),af)))else(some ((⟨(⟨[],[]⟩:xr4),[],[],[],[]⟩:xrw),ae)))else(some ((⟨(⟨[],[]⟩:xr4),[],[],[],[]⟩:xrw),3))
def zhq (a:xr4) (b:xr4):Nat->Option ((Nat)⊕(Bool⊕Unit))
 |I=>if(I:Int)<(a.Below.length:Int)then((a.Below[I]?).bind fun U=>(b.Below[I]?).bind fun aa=>if U.a0=aa.a0/\U.a1=aa.a1 then(some (.inl (I+1)))else(some (.inr (.inl (false)))))else(some (.inr (.inr (()))))
def zhr (a:xr4) (b:xr4):Nat->Option ((Nat)⊕(Bool⊕Unit))
 |I=>if(I:Int)<(a.Names.length:Int)then((a.Names[I]?).bind fun U=>(b.Names[I]?).bind fun aa=>if U=aa then(some (.inl (I+1)))else(some (.inr (.inl (false)))))else(some (.inr (.inr (()))))
def zg5 (a:xr4) (b:xr4):Option Bool:=
 if(a.Names.length:Int)=(b.Names.length:Int)then(if(a.Below.length:Int)=(b.Below.length:Int)then((loop (zhr a b) 0).bind (fun I=>match I with|(.inl aa)=>some aa|(.inr ())=>(loop (zhq a b) 0).bind (fun I=>match I with|(.inl U)=>some U|(.inr ())=>some true)))else(some false))else(some false)
def zda (a:List Int) (b:List Int):Nat->Option ((Nat)⊕(Bool⊕Unit))
 |I=>if(I:Int)<(a.length:Int)then((a[I]?).bind fun U=>(b[I]?).bind fun aa=>if U=aa then(some (.inl (I+1)))else(some (.inr (.inl (false)))))else(some (.inr (.inr (()))))
def zbj (a:List Int) (b:List Int):Option Bool:=
 if(a.length:Int)=(b.length:Int)then((loop (zda a b) 0).bind (fun I=>match I with|(.inl U)=>some U|(.inr ())=>some true))else(some false)
def zho (I:(List xry)->(List xry)->Option Bool) (a:List xry) (b:List xry):Nat->Option ((Nat)⊕(Bool⊕Unit))
 |ab=>if(ab:Int)<(a.length:Int)then((a[ab]?).bind fun U=>(b[ab]?).bind fun aa=>if U.Kind=aa.Kind then(if U.Name=aa.Name then((zdk U.Target aa.Target).bind fun ae=>if ae=true then((zdk U.Value aa.Value).bind fun af=>if af=true then((zdk (⟨0,0,0,[],U.Args⟩:xrx) (⟨0,0,0,[],aa.Args⟩:xrx)).bind fun ai=>if ai=true then((I U.Body aa.Body).bind fun aj=>if aj=true then((I U.Else aa.Else).bind fun ad=>if ad=true then(some (.inl (ab+1)))else(some (.inr (.inl (false)))))else(some (.inr (.inl (false)))))else(some (.inr (.inl (false)))))else(some (.inr (.inl (false)))))else(some (.inr (.inl (false)))))else(some (.inr (.inl (false)))))else(some (.inr (.inl (false)))))else(some (.inr (.inr (()))))
def ze5 (I:(List xry)->(List xry)->Option Bool) (a:List xry) (b:List xry):Option Bool:=
 if(a.length:Int)=(b.length:Int)then((loop (zho I a b) 0).bind (fun aa=>match aa with|(.inl U)=>some U|(.inr ())=>some true))else(some false)
def ze4:Nat->((List xry)->(List xry)->Option Bool)
 |0=>fun _ _=>none
 |n+1=>ze5 (ze4 n)
def ztv (n:Nat) (a:List xry) (b:List xry):Option Bool:=(ze4 n) a b
def zk1 (a:List xry) (b:List xry):Option Bool:=ztv 1000000 a b
def zge (a:xse) (b:xse):Option Bool:=
 if a.Every=b.Every then(if a.Priority=b.Priority then((zbj a.Budget b.Budget).bind fun I=>if I=true then((zk1 a.Body b.Body).bind fun U=>some U)else(some false))else(some false))else(some false)
def zhj (a:xrw) (b:xrw):Nat->Option ((Nat)⊕(Bool⊕Unit))
 |I=>if(I:Int)<(a.Tasks.length:Int)then((a.Tasks[I]?).bind fun U=>(b.Tasks[I]?).bind fun aa=>(zge U aa).bind fun ab=>if ab=true then(some (.inl (I+1)))else(some (.inr (.inl (false)))))else(some (.inr (.inr (()))))
def zhk (a:xrw) (b:xrw):Nat->Option ((Nat)⊕(Bool⊕Unit))
 |I=>if(I:Int)<(a.Blocks.length:Int)then((a.Blocks[I]?).bind fun U=>(b.Blocks[I]?).bind fun aa=>if U.Name=aa.Name/\U.Kind=aa.Kind/\U.Label=aa.Label then(some (.inl (I+1)))else(some (.inr (.inl (false)))))else(some (.inr (.inr (()))))
def zhl (a:xrw) (b:xrw):Nat->Option ((Nat)⊕(Bool⊕Unit))
 |aa=>if(aa:Int)<(a.Vars.length:Int)then((a.Vars[aa]?).bind fun I=>(b.Vars[aa]?).bind fun U=>if I.Name=U.Name/\I.Type_.Kind=U.Type_.Kind/\I.Type_.Low=U.Type_.Low/\I.Type_.Len=U.Type_.Len/\I.Mode=U.Mode/\I.Label=U.Label/\I.Safe=U.Safe then(some (.inl (aa+1)))else(some (.inr (.inl (false)))))else(some (.inr (.inr (()))))
def zhm (a:xrw) (b:xrw):Nat->Option ((Nat)⊕(Bool⊕Unit))
 |I=>if(I:Int)<(a.Sites.length:Int)then((a.Sites[I]?).bind fun U=>(b.Sites[I]?).bind fun aa=>if U.Name=aa.Name/\U.From=aa.From/\U.To=aa.To then(some (.inl (I+1)))else(some (.inr (.inl (false)))))else(some (.inr (.inr (()))))
def zgy (a:xrw) (b:xrw):Option Bool:=
 (zg5 a.Lattice b.Lattice).bind fun ad=>if ad=true then(if(a.Sites.length:Int)=(b.Sites.length:Int)then(if(a.Vars.length:Int)=(b.Vars.length:Int)then(if(a.Blocks.length:Int)=(b.Blocks.length:Int)then(if(a.Tasks.length:Int)=(b.Tasks.length:Int)then((loop (zhm a b) 0).bind (fun I=>match I with|(.inl ae)=>some ae|(.inr ())=>(loop (zhl a b) 0).bind (fun I=>match I with|(.inl U)=>some U|(.inr ())=>(loop (zhk a b) 0).bind (fun I=>match I with|(.inl aa)=>some aa|(.inr ())=>(loop (zhj a b) 0).bind (fun I=>match I with|(.inl ab)=>some ab|(.inr ())=>some true)))))else(some false))else(some false))else(some false))else(some false))else(some false)
def zfd (p:xrw):Option Bool:=
 (zfj p).bind fun I=>if I.2=0 then((zgy p I.1).bind fun U=>some U)else(some false)
end
theorem zru {I:xrx->Int->Int->Option Int} {e:xrx} {deep:Int} {left:Int} {r:Int}
  (U:∀(x0:xrx) (x1:Int) (x2:Int) (r:Int),I x0 x1 x2=some r->Pu Tryz.prog 76 [.agg (xr3 x0),.one (.int .i64 x1),.one (.int .i64 x2)] (.one (.int .i64 r))) (h:zf0 I e deep left=some r):
  Pu Tryz.prog 76 [.agg (xr3 e),.one (.int .i64 deep),.one (.int .i64 left)] (.one (.int .i64 r)):=by
 have F:=trivial;have R:=trivial
 refine pA Tryz.func76 ?_;simp only[Tryz.f76];unfold zf0 at h;refine tr ?_;intros;refine fi h F ?_ ?_<;>intro h _ F;cases h;exact fin;refine fi h F ?_ ?_<;>intro h _ F;cases h;exact fin;refine bi h fun af h aj=>?_;refine tt ?_
 refine lX aj (fun|(ab,ad),_=>⟨[(1,.one (.int .i64 deep)),(2,.one (.int .i64 ab)),(3,.one (.ref 0 0 0 0)),(7,.one (.int .i64 (ad:Int)))],[.cells 0 5 [[.int .i64 e.Op,.int .i64 e.N,.int .i64 e.Kind,.str e.Name,.sl (e.Args.map xr3)]]]⟩) (fun|af,_=>⟨[(2,.one (.int .i64 af))],[.cells 0 5 [[.int .i64 e.Op,.int .i64 e.N,.int .i64 e.Kind,.str e.Name,.sl (e.Args.map xr3)]]]⟩) (fun _=>some 0) ?_ ?_
 intro i4 b4 al;obtain rfl:=Option.some.inj al;obtain⟨⟩:=b4;dsimp only at h|-;cases h;exact fin;intro ai m4 s4 a4 o4 aa ae an;obtain⟨ab,ad⟩:=s4;obtain⟨⟩:=a4;dsimp only[zdu]at aa|-;refine tr ?_;intros;refine fl aa F ?_ ?_<;>intro aa _ F;refine fi aa F ?_ ?_<;>intro aa _ F;refine bx aa F fun aq aa ao F=>?_;refine bi aa fun ar aa ak=>?_;refine tr ?_;intros;refine cS (U _ _ _ _ ak) ?_
 cases aa;refine tt ?_;refine wn ad F fun F=>?_;exact bk an ae ();cases aa;refine tt ?_;exact xt ae ai ();cases aa;refine tt ?_;exact xt ae ai ()
theorem zrt (n:Nat):(∀(I:xrx) (U:Int) (x2:Int) (r:Int),(zc1 n) I U x2=some r->Pu Tryz.prog 76 [.agg (xr3 I),.one (.int .i64 U),.one (.int .i64 x2)] (.one (.int .i64 r))):=by
 induction n with
 |zero=>exact fun _ _ _ r h=>(by cases h)
 |succ n ih=>
  have aa:=ih
  exact fun _ _ _ r h=>zru aa h
theorem zdt {e:xrx} {deep:Int} {left:Int} {r:Int} (h:zc4 e deep left=some r):Pu Tryz.prog 76 [.agg (xr3 e),.one (.int .i64 deep),.one (.int .i64 left)] (.one (.int .i64 r)):=(zrt 1000000) _ _ _ _ h
theorem zrs {ab:(List xry)->Int->Int->Option Int} {l:List xry} {deep:Int} {left:Int} {r:Int}
  (U:∀(x0:List xry) (x1:Int) (x2:Int) (r:Int),ab x0 x1 x2=some r->Pu Tryz.prog 37 [.one (.sl (x0.map xr6)),.one (.int .i64 x1),.one (.int .i64 x2)] (.one (.int .i64 r))) (h:zec ab l deep left=some r):
  Pu Tryz.prog 37 [.one (.sl (l.map xr6)),.one (.int .i64 deep),.one (.int .i64 left)] (.one (.int .i64 r)):=by
 have F:=trivial;have R:=trivial
 refine pA Tryz.func37 ?_;simp only[Tryz.f37];unfold zec at h;refine tr ?_;intros;refine fi h F ?_ ?_<;>intro h _ F;refine fi h F ?_ ?_<;>intro h _ F;cases h;exact fin;refine tt ?_;refine fi h F ?_ ?_<;>intro h _ F;cases h;exact fin;refine bi h fun aA h aC=>?_;refine tt ?_
 refine lX aC (fun|(al,af),_=>⟨[(0,.one (.sl (l.map xr6))),(1,.one (.int .i64 deep)),(2,.one (.int .i64 al)),(7,.one (.int .i64 (af:Int)))],[]⟩) (fun|aA,_=>⟨[(2,.one (.int .i64 aA))],[]⟩) (fun _=>some 0) ?_ ?_
 intro i4 b4 aI;obtain rfl:=Option.some.inj aI;obtain⟨⟩:=b4;dsimp only at h|-;cases h;exact fin;intro aB m4 s4 a4 o4 aa ai an;obtain⟨al,af⟩:=s4;obtain⟨⟩:=a4;dsimp only[zb4]at aa|-;refine tr ?_;intros;refine fl aa F ?_ ?_<;>intro aa _ F;refine fi aa F ?_ ?_<;>intro aa _ F;refine bx aa F fun aV aa aN F=>?_;refine bi aa fun aW aa aD=>?_;refine tr ?_;intros;refine cD (zdt aD) ?_
 refine tr ?_;intros;refine fi aa F ?_ ?_<;>intro aa _ F;refine bi aa fun aX aa aE=>?_;refine tr ?_;intros;refine cS (zdt aE) ?_;refine fi aa F ?_ ?_<;>intro aa _ F;refine bi aa fun aY aa aF=>?_;refine tr ?_;intros;refine cS (zdt aF) ?_;refine fi aa F ?_ ?_<;>intro aa _ F;refine bi aa fun aZ aa aG=>?_;refine tr ?_;intros;refine cS (U _ _ _ _ aG) ?_;refine fi aa F ?_ ?_<;>intro aa _ F
 refine bi aa fun aO aa ar=>?_;refine tr ?_;intros;refine cS (U _ _ _ _ ar) ?_;cases aa;refine tt ?_;refine wn af F fun F=>?_;exact bk an ai ();cases aa;refine tt ?_;refine wn af F fun F=>?_;exact bk an ai ();cases aa;refine tt ?_;refine wn af F fun F=>?_;exact bk an ai ();cases aa;refine tt ?_;refine wn af F fun F=>?_;exact bk an ai ();cases aa;refine tt ?_;refine wn af F fun F=>?_;exact bk an ai ()
 cases aa;refine tt ?_;exact xt ai aB ();cases aa;refine tt ?_;exact xt ai aB ();refine fi h F ?_ ?_<;>intro h _ F;cases h;exact fin;refine bi h fun ao h au=>?_;refine tt ?_
 refine lX au (fun|(ak,ad),_=>⟨[(0,.one (.sl (l.map xr6))),(1,.one (.int .i64 deep)),(2,.one (.int .i64 ak)),(7,.one (.int .i64 (ad:Int)))],[]⟩) (fun|ao,_=>⟨[(2,.one (.int .i64 ao))],[]⟩) (fun _=>some 0) ?_ ?_
 intro i15 aJ aH;obtain rfl:=Option.some.inj aH;obtain⟨⟩:=aJ;dsimp only at h|-;cases h;exact fin;intro aq a5 aK aL a6 I ae aj;obtain⟨ak,ad⟩:=aK;obtain⟨⟩:=aL;dsimp only[zj9]at I|-;refine tr ?_;intros;refine fl I F ?_ ?_<;>intro I _ F;refine fi I F ?_ ?_<;>intro I _ F;refine bx I F fun aP I aM F=>?_;refine bi I fun aQ I av=>?_;refine tr ?_;intros;refine cD (zdt av) ?_;refine tr ?_
 intros;refine fi I F ?_ ?_<;>intro I _ F;refine bi I fun aR I aw=>?_;refine tr ?_;intros;refine cS (zdt aw) ?_;refine fi I F ?_ ?_<;>intro I _ F;refine bi I fun aS I ax=>?_;refine tr ?_;intros;refine cS (zdt ax) ?_;refine fi I F ?_ ?_<;>intro I _ F;refine bi I fun aT I ay=>?_;refine tr ?_;intros;refine cS (U _ _ _ _ ay) ?_;refine fi I F ?_ ?_<;>intro I _ F;refine bi I fun aU I az=>?_
 refine tr ?_;intros;refine cS (U _ _ _ _ az) ?_;cases I;refine tt ?_;refine wn ad F fun F=>?_;exact bk aj ae ();cases I;refine tt ?_;refine wn ad F fun F=>?_;exact bk aj ae ();cases I;refine tt ?_;refine wn ad F fun F=>?_;exact bk aj ae ();cases I;refine tt ?_;refine wn ad F fun F=>?_;exact bk aj ae ();cases I;refine tt ?_;refine wn ad F fun F=>?_;exact bk aj ae ();cases I;refine tt ?_
 exact xt ae aq ();cases I;refine tt ?_;exact xt ae aq ()
theorem zrr (n:Nat):(∀(I:List xry) (U:Int) (x2:Int) (r:Int),(zbn n) I U x2=some r->Pu Tryz.prog 37 [.one (.sl (I.map xr6)),.one (.int .i64 U),.one (.int .i64 x2)] (.one (.int .i64 r))):=by
 induction n with
 |zero=>exact fun _ _ _ r h=>(by cases h)
 |succ n ih=>
  have aa:=ih
  exact fun _ _ _ r h=>zrs aa h
theorem ztz {l:List xry} {deep:Int} {left:Int} {r:Int} (h:zlv l deep left=some r):Pu Tryz.prog 37 [.one (.sl (l.map xr6)),.one (.int .i64 deep),.one (.int .i64 left)] (.one (.int .i64 r)):=(zrr 1000000) _ _ _ _ h
theorem zm2 {p:xrw} {r:Int} (h:zd8 p=some r):
  Pu Tryz.prog 13 [.agg (xr5 p)] (.one (.int .i64 r)):=by
 have F:=trivial;have R:=trivial
 refine pA Tryz.func13 ?_;simp only[Tryz.f13];unfold zd8 at h;refine tr ?_;intros;refine fi h F ?_ ?_<;>intro h _ F;cases h;exact fin;refine tr ?_;intros;refine fi h F ?_ ?_<;>intro h _ F;cases h;exact fin;refine bi h fun ae h ab=>?_;refine tt ?_
 refine lX ab (fun|U,_=>⟨[(1,.one (.ref 0 0 0 0)),(4,.one (.int .i64 (U:Int)))],[.cells 0 6 [[.sl (p.Lattice.Names.map eS),.sl (p.Lattice.Below.map (eA2 eI)),.sl (p.Sites.map xrz),.sl (p.Vars.map xr0),.sl (p.Blocks.map xr1),.sl (p.Tasks.map xr2)]]]⟩) (fun|(.inl aj),_=>⟨[],[]⟩|(.inr ()),_=>⟨[],[.cells 0 6 [[.sl (p.Lattice.Names.map eS),.sl (p.Lattice.Below.map (eA2 eI)),.sl (p.Sites.map xrz),.sl (p.Vars.map xr0),.sl (p.Blocks.map xr1),.sl (p.Tasks.map xr2)]]]⟩) (fun|(.inl _)=>none|(.inr _)=>some 0) ?_ ?_
 intro i3 b3 aa
 rcases ae with af|⟨⟩
 cases aa;obtain rfl:=Option.some.inj aa;obtain⟨⟩:=b3;dsimp only at h|-;cases h;exact fin;intro af3 m3 U a3 o3 I ho3 ih3;obtain⟨⟩:=a3;dsimp only[zcr]at I|-;refine tr ?_;intros;refine fl I F ?_ ?_<;>intro I _ F;refine bx I F fun ak I ai F=>?_;refine tr ?_;intros;refine fi I F ?_ ?_<;>intro I _ F;cases I;obtain rfl:=sr ho3
 try dsimp only at h
 cases h;exact fin;refine bi I fun al I ad=>?_;refine tr ?_;intros;refine cS (ztz ad) ?_;refine fi I F ?_ ?_<;>intro I _ F;cases I;obtain rfl:=sr ho3
 try dsimp only at h
 cases h;exact fin;cases I;refine tt ?_;refine wn U F fun F=>?_;exact bk ih3 ho3 ();cases I;refine tt ?_;exact xt ho3 af3 ()
theorem zlb {c:Int} {r:Bool} (h:zdo c=some r):
  Pu Tryz.prog 198 [.one (.int .u8 c)] (.one (.bool r)):=by
 have F:=trivial;have R:=trivial
 refine pA Tryz.func198 ?_;simp only[Tryz.f198];unfold zdo at h;refine fi h F ?_ ?_<;>intro h _ F;refine tt ?_;refine fi h F ?_ ?_<;>intro h _ F;cases h;exact fin;refine fi h F ?_ ?_<;>intro h _ F;refine tt ?_;refine fi h F ?_ ?_<;>intro h _ F;cases h;exact fin;cases h;exact fin;cases h;exact fin;refine tt ?_;refine fi h F ?_ ?_<;>intro h _ F;refine fi h F ?_ ?_<;>intro h _ F;cases h;exact fin
 cases h;exact fin;cases h;exact fin
theorem zrm {c:Int} {r:Bool} (h:zfu c=some r):
  Pu Tryz.prog 199 [.one (.int .u8 c)] (.one (.bool r)):=by
 have F:=trivial;have R:=trivial
 refine pA Tryz.func199 ?_;simp only[Tryz.f199];unfold zfu at h;refine fi h F ?_ ?_<;>intro h _ F;cases h;exact fin;cases h;exact fin
theorem zty {s:Str} {r:Int} (h:zh5 s=some r):
  Pu Tryz.prog 185 [.one (.str s)] (.one (.int .i64 r)):=by
 have F:=trivial;have R:=trivial
 refine pA Tryz.func185 ?_;simp only[Tryz.f185];unfold zh5 at h;refine fi h F ?_ ?_<;>intro h _ F;cases h;exact fin;refine bx h F fun aq h an F=>?_;refine bi h fun ar h af=>?_;refine tr ?_;intros;refine cS (zlb af) ?_;refine fv h F ?_ ?_<;>intro h _ F;refine bi h fun ab h ai=>?_;refine tt ?_
 refine lX ai (fun|U,_=>⟨[(0,.one (.str s)),(3,.one (.int .i64 (U:Int)))],[]⟩) (fun|ab,_=>⟨[(3,.one (.int .i64 (ab:Int)))],[]⟩) (fun _=>some 0) ?_ ?_
 intro i5 b5 al;obtain rfl:=Option.some.inj al;obtain⟨⟩:=b5;dsimp only at h|-;cases h;exact fin;intro ad m5 U a5 o5 I aa ae;obtain⟨⟩:=a5;dsimp only[zj8]at I|-;refine tr ?_;intros;refine fl I F ?_ ?_<;>intro I _ F;refine bx I F fun au I ao F=>?_;refine bi I fun av I aj=>?_;refine tr ?_;intros;refine cS (zlb aj) ?_;refine fv I F ?_ ?_<;>intro I _ F;cases I;refine tt ?_;refine wn U F fun F=>?_
 exact bk ae aa ();refine bi I fun aw I ak=>?_;refine tr ?_;intros;refine cS (zrm ak) ?_;refine fv I F ?_ ?_<;>intro I _ F;cases I;refine tt ?_;refine wn U F fun F=>?_;exact bk ae aa ();cases I;refine tt ?_;exact xt aa ad ();cases I;refine tt ?_;exact xt aa ad ();cases h;exact fin
theorem zlt {s:Str} {names:Str} {r:Bool} (h:zeb s names=some r):
  Pu Tryz.prog 159 [.one (.str s),.one (.str names)] (.one (.bool r)):=by
 have F:=trivial;have R:=trivial
 refine pA Tryz.func159 ?_;simp only[Tryz.f159];unfold zeb at h;refine bi h fun ai h af=>?_;refine tt ?_
 refine lX af (fun|(ab,aa),_=>⟨[(0,.one (.str s)),(1,.one (.str names)),(5,.one (.int .i64 ab)),(6,.one (.int .i64 (aa:Int)))],[]⟩) (fun|(.inl an),_=>⟨[],[]⟩|(.inr ()),_=>⟨[],[]⟩) (fun|(.inl _)=>none|(.inr _)=>some 0) ?_ ?_
 intro i4 b4 ae
 rcases ai with aj|⟨⟩
 cases ae;obtain rfl:=Option.some.inj ae;obtain⟨⟩:=b4;dsimp only at h|-;cases h;exact fin;intro ak m4 s4 a4 o4 I U ad;obtain⟨ab,aa⟩:=s4;obtain⟨⟩:=a4;dsimp only[zi5]at I|-;refine tr ?_;intros;refine fm I F ?_ ?_<;>intro I _ F;refine tr ?_;intros;refine fi I F ?_ ?_<;>intro I _ F;refine fi I F ?_ ?_<;>intro I _ F;refine nd I F fun I F=>?_;refine tr ?_;intros;refine fi I F ?_ ?_<;>intro I _ F
 cases I;obtain rfl:=sr U
 try dsimp only at h
 cases h;exact fin;cases I;refine tt ?_;refine wn aa F fun F=>?_;exact bk ad U ();cases I;refine tt ?_;refine wn aa F fun F=>?_;exact bk ad U ();refine bx I F fun ao I al F=>?_;refine tr ?_;intros;refine fi I F ?_ ?_<;>intro I _ F;refine fi I F ?_ ?_<;>intro I _ F;refine nd I F fun I F=>?_;refine tr ?_;intros;refine fi I F ?_ ?_<;>intro I _ F;cases I;obtain rfl:=sr U
 try dsimp only at h
 cases h;exact fin;cases I;refine tt ?_;refine wn aa F fun F=>?_;exact bk ad U ();cases I;refine tt ?_;refine wn aa F fun F=>?_;exact bk ad U ();cases I;refine tt ?_;refine wn aa F fun F=>?_;exact bk ad U ();cases I;refine tt ?_;exact xt U ak ()
theorem zsz {s:Str} {r:Bool} (h:zg3 s=some r):
  Pu Tryz.prog 186 [.one (.str s)] (.one (.bool r)):=by
 have F:=trivial;have R:=trivial
 refine pA Tryz.func186 ?_;simp only[Tryz.f186];unfold zg3 at h;refine bi h fun U h I=>?_;refine tr ?_;intros;refine cS (zlt I) ?_;cases h;exact fin
theorem zrl {s:Str} {r:Str} (h:zft s=some r):
  Pu Tryz.prog 187 [.one (.str s)] (.one (.str r)):=by
 have F:=trivial;have R:=trivial
 refine pA Tryz.func187 ?_;simp only[Tryz.f187];unfold zft at h;refine bi h fun ad h ai=>?_;refine tt ?_
 refine lX ai (fun|(aa,U),_=>⟨[(3,.one (.msl 0 0 0 aa.length)),(4,.one (.int .i64 (U:Int)))],[.cells 0 1 (aa.map (eK .u8))]⟩) (fun|ad,_=>⟨[(3,.one (.msl 0 0 0 ad.length))],[.cells 0 1 (ad.map (eK .u8))]⟩) (fun _=>some 0) ?_ ?_
 intro i4 b4 aj;obtain rfl:=Option.some.inj aj;obtain⟨⟩:=b4;dsimp only at h|-;cases h;exact fin;intro ak m4 s4 a4 o4 I ab ae;obtain⟨aa,U⟩:=s4;obtain⟨⟩:=a4;dsimp only[zi4]at I|-;refine tr ?_;intros;refine fl I F ?_ ?_<;>intro I _ F;refine bx I F fun af I al F=>?_;refine tr ?_;intros;refine fi I F ?_ ?_<;>intro I _ F;refine tr ?_;intros;refine fi I F ?_ ?_<;>intro I _ F
 have R:=And.intro (show(List.map (eK .u8) aa).set U [.int .u8 (IntKind.u8.wrap (af-32))]=List.map (eK .u8) (aa.set U (IntKind.u8.wrap (af-32))) by simp[go_sem,List.map_set]) R
 cases I;refine tr ?_;intros;refine wn U F fun F=>?_;exact bk ae ab ();cases I;refine tt ?_;refine wn U F fun F=>?_;exact bk ae ab ();cases I;refine tt ?_;refine wn U F fun F=>?_;exact bk ae ab ();cases I;refine tt ?_;exact xt ab ak ()
theorem za1 {s:Str} {r:Bool} (h:zat s=some r):
  Pu Tryz.prog 155 [.one (.str s)] (.one (.bool r)):=by
 have F:=trivial;have R:=trivial
 refine pA Tryz.func155 ?_;simp only[Tryz.f155];unfold zat at h;refine fi h F ?_ ?_<;>intro h _ F;cases h;exact fin;refine tr ?_;intros;refine fi h F ?_ ?_<;>intro h _ F;refine bi h fun ab h I=>?_;refine tr ?_;intros;refine cS (zty I) ?_;refine tr ?_;intros;refine fi h F ?_ ?_<;>intro h _ F;refine bi h fun ad h U=>?_;refine tr ?_;intros;refine cS (zrl U) ?_;refine bi h fun ae h aa=>?_
 refine tr ?_;intros;refine cS (zsz aa) ?_;cases h;exact fin;cases h;exact fin;cases h;exact fin
theorem zsp {l:List Str} {name:Str} {r:Int} (h:zgx l name=some r):
  Pu Tryz.prog 156 [.one (.sl (l.map eS)),.one (.str name)] (.one (.int .i64 r)):=by
 have F:=trivial;have R:=trivial
 refine pA Tryz.func156 ?_;simp only[Tryz.f156];unfold zgx at h;refine bi h fun ad h ab=>?_;refine tt ?_
 refine lX ab (fun|U,_=>⟨[(0,.one (.sl (l.map eS))),(1,.one (.str name)),(5,.one (.int .i64 (U:Int)))],[]⟩) (fun|(.inl ai),_=>⟨[],[]⟩|(.inr ()),_=>⟨[],[]⟩) (fun|(.inl _)=>none|(.inr _)=>some 0) ?_ ?_
 intro i3 b3 aa
 rcases ad with ae|⟨⟩
 cases aa;obtain rfl:=Option.some.inj aa;obtain⟨⟩:=b3;dsimp only at h|-;cases h;exact fin;intro af3 m3 U a3 o3 I ho3 ih3;obtain⟨⟩:=a3;dsimp only[zjl]at I|-;refine tr ?_;intros;refine fl I F ?_ ?_<;>intro I _ F;refine bx I F fun aj I af F=>?_;refine tr ?_;intros;refine fi I F ?_ ?_<;>intro I _ F;cases I;obtain rfl:=sr ho3
 try dsimp only at h
 cases h;exact fin;cases I;refine tt ?_;refine wn U F fun F=>?_;exact bk ih3 ho3 ();cases I;refine tt ?_;exact xt ho3 af3 ()
theorem zby {l:xr4} {a:Int} {r:Bool} (h:za6 l a=some r):
  Pu Tryz.prog 52 [.agg (xsf l),.one (.int .i64 a)] (.one (.bool r)):=by
 have F:=trivial;have R:=trivial
 refine pA Tryz.func52 ?_;simp only[Tryz.f52];unfold za6 at h;refine fi h F ?_ ?_<;>intro h _ F;cases h;exact fin;cases h;exact fin
theorem zbs {p:xrw} {n:Int} {r:Bool} (h:za7 p n=some r):
  Pu Tryz.prog 157 [.agg (xr5 p),.one (.int .i64 n)] (.one (.bool r)):=by
 have F:=trivial;have R:=trivial
 refine pA Tryz.func157 ?_;simp only[Tryz.f157];unfold za7 at h;refine bi h fun U h I=>?_;refine tr ?_;intros;refine cS (zby I) ?_;cases h;exact fin
theorem zjs {kind:Int} {r:Int} (h:za2 kind=some r):
  Pu Tryz.prog 42 [.one (.int .i64 kind)] (.one (.int .i64 r)):=by
 have F:=trivial;have R:=trivial
 refine pA Tryz.func42 ?_;simp only[Tryz.f42];unfold za2 at h;refine fi h F ?_ ?_<;>intro h _ F;cases h;exact fin;refine fi h F ?_ ?_<;>intro h _ F;cases h;exact fin;refine tt ?_;refine fi h F ?_ ?_<;>intro h _ F;cases h;exact fin;refine fi h F ?_ ?_<;>intro h _ F;cases h;exact fin;cases h;exact fin
theorem zma {kind:Int} {r:Int} (h:zb8 kind=some r):
  Pu Tryz.prog 43 [.one (.int .i64 kind)] (.one (.int .i64 r)):=by
 have F:=trivial;have R:=trivial
 refine pA Tryz.func43 ?_;simp only[Tryz.f43];unfold zb8 at h;refine fi h F ?_ ?_<;>intro h _ F;cases h;exact fin;cases h;exact fin
theorem zd3 {kind:Int} {n:Int} {r:Bool} (h:zav kind n=some r):
  Pu Tryz.prog 17 [.one (.int .i64 kind),.one (.int .i64 n)] (.one (.bool r)):=by
 have F:=trivial;have R:=trivial
 refine pA Tryz.func17 ?_;simp only[Tryz.f17];unfold zav at h;refine fi h F ?_ ?_<;>intro h _ F;refine fi h F ?_ ?_<;>intro h _ F;cases h;exact fin;cases h;exact fin;refine bi h fun ab h I=>?_;refine tr ?_;intros;refine cS (zjs I) ?_;refine fi h F ?_ ?_<;>intro h _ F;refine bi h fun ad h U=>?_;refine tr ?_;intros;refine cS (zma U) ?_;refine fi h F ?_ ?_<;>intro h _ F;refine bi h fun ae h aa=>?_
 refine tr ?_;intros;refine cS (zma aa) ?_;cases h;exact fin;cases h;exact fin;cases h;exact fin
theorem zi6 {t:xsc} {r:Int} (h:zbx t=some r):
  Pu Tryz.prog 53 [.agg (xsi t)] (.one (.int .i64 r)):=by
 have F:=trivial;have R:=trivial
 refine pA Tryz.func53 ?_;simp only[Tryz.f53];unfold zbx at h;refine bi h fun U h I=>?_;refine tr ?_;intros;refine cS (zjs I) ?_;refine fi h F ?_ ?_<;>intro h _ F;cases h;exact fin;refine tt ?_;refine fi h F ?_ ?_<;>intro h _ F;cases h;exact fin;refine fi h F ?_ ?_<;>intro h _ F;cases h;exact fin;refine tt ?_;refine fi h F ?_ ?_<;>intro h _ F;refine fi h F ?_ ?_<;>intro h _ F;refine tt ?_
 refine fi h F ?_ ?_<;>intro h _ F;cases h;exact fin;refine fi h F ?_ ?_<;>intro h _ F;cases h;exact fin;cases h;exact fin;cases h;exact fin;refine tt ?_;refine fi h F ?_ ?_<;>intro h _ F;cases h;exact fin;refine fi h F ?_ ?_<;>intro h _ F;cases h;exact fin;cases h;exact fin
theorem zon {p:xrw} {v:xr7} {r:Bool} (h:zd1 p v=some r):
  Pu Tryz.prog 158 [.agg (xr5 p),.agg (xr0 v)] (.one (.bool r)):=by
 have F:=trivial;have R:=trivial
 refine pA Tryz.func158 ?_;simp only[Tryz.f158];unfold zd1 at h;refine bi h fun af h I=>?_;refine tr ?_;intros;refine cS (za1 I) ?_;refine fv h F ?_ ?_<;>intro h _ F;refine bi h fun ai h U=>?_;refine tr ?_;intros;refine cS (zi6 U) ?_;refine fi h F ?_ ?_<;>intro h _ F;refine fi h F ?_ ?_<;>intro h _ F;refine tt ?_;refine fi h F ?_ ?_<;>intro h _ F;refine fi h F ?_ ?_<;>intro h _ F;refine tt ?_
 refine fi h F ?_ ?_<;>intro h _ F;cases h;exact fin;cases h;exact fin;refine bi h fun aj h aa=>?_;refine tr ?_;intros;refine cS (zbs aa) ?_;refine fv h F ?_ ?_<;>intro h _ F;refine tt ?_;refine fi h F ?_ ?_<;>intro h _ F;cases h;exact fin;cases h;exact fin;cases h;exact fin;cases h;exact fin;refine tt ?_;refine fi h F ?_ ?_<;>intro h _ F;refine fi h F ?_ ?_<;>intro h _ F;refine bi h fun ak h ab=>?_
 refine tr ?_;intros;refine cS (zbs ab) ?_;refine fv h F ?_ ?_<;>intro h _ F;cases h;exact fin;cases h;exact fin;cases h;exact fin;refine fi h F ?_ ?_<;>intro h _ F;refine bi h fun al h ad=>?_;refine tr ?_;intros;refine cS (zbs ad) ?_;refine fv h F ?_ ?_<;>intro h _ F;refine tt ?_;refine fi h F ?_ ?_<;>intro h _ F;refine bi h fun an h ae=>?_;refine tr ?_;intros;refine cS (zd3 ae) ?_
 cases h;exact fin;cases h;exact fin;cases h;exact fin;cases h;exact fin;cases h;exact fin;cases h;exact fin
theorem zrg {p:xrw} {r:Bool} (h:zfq p=some r):
  Pu Tryz.prog 119 [.agg (xr5 p)] (.one (.bool r)):=by
 have F:=trivial;have R:=trivial
 refine pA Tryz.func119 ?_;simp only[Tryz.f119];unfold zfq at h;refine tr ?_;intros;refine fi h F ?_ ?_<;>intro h _ F;cases h;exact fin;refine tr ?_;intros;refine fi h F ?_ ?_<;>intro h _ F;cases h;exact fin;refine tr ?_;intros;refine fi h F ?_ ?_<;>intro h _ F;cases h;exact fin;refine tr ?_;intros;refine fi h F ?_ ?_<;>intro h _ F;cases h;exact fin;refine tr ?_;intros;refine fi h F ?_ ?_<;>intro h _ F
 cases h;exact fin;refine tr ?_;intros;refine fi h F ?_ ?_<;>intro h _ F;cases h;exact fin;refine bi h fun a4 h aL=>?_;refine tt ?_
 refine lX aL (fun|aq,_=>⟨[(1,.one (.ref 0 0 0 0)),(3,.one (.int .i64 (aq:Int)))],[.cells 0 6 [[.sl (p.Lattice.Names.map eS),.sl (p.Lattice.Below.map (eA2 eI)),.sl (p.Sites.map xrz),.sl (p.Vars.map xr0),.sl (p.Blocks.map xr1),.sl (p.Tasks.map xr2)]]]⟩) (fun|(.inl bH),_=>⟨[],[]⟩|(.inr ()),_=>⟨[(1,.one (.ref 0 0 0 0))],[.cells 0 6 [[.sl (p.Lattice.Names.map eS),.sl (p.Lattice.Below.map (eA2 eI)),.sl (p.Sites.map xrz),.sl (p.Vars.map xr0),.sl (p.Blocks.map xr1),.sl (p.Tasks.map xr2)]]]⟩) (fun|(.inl _)=>none|(.inr _)=>some 0) ?_ ?_
 intro i3 b3 aK
 rcases a4 with ae|⟨⟩
 cases aK;obtain rfl:=Option.some.inj aK;obtain⟨⟩:=b3;dsimp only at h|-;refine bi h fun a5 h aM=>?_;refine tt ?_
 refine lX aM (fun|ar,_=>⟨[(1,.one (.ref 0 0 0 0)),(4,.one (.int .i64 (ar:Int)))],[.cells 0 6 [[.sl (p.Lattice.Names.map eS),.sl (p.Lattice.Below.map (eA2 eI)),.sl (p.Sites.map xrz),.sl (p.Vars.map xr0),.sl (p.Blocks.map xr1),.sl (p.Tasks.map xr2)]]]⟩) (fun|(.inl bm),_=>⟨[],[]⟩|(.inr ()),_=>⟨[(1,.one (.ref 0 0 0 0))],[.cells 0 6 [[.sl (p.Lattice.Names.map eS),.sl (p.Lattice.Below.map (eA2 eI)),.sl (p.Sites.map xrz),.sl (p.Vars.map xr0),.sl (p.Blocks.map xr1),.sl (p.Tasks.map xr2)]]]⟩) (fun|(.inl _)=>none|(.inr _)=>some 2) ?_ ?_
 intro i10 a6 au
 rcases a5 with ae|⟨⟩
 cases au;obtain rfl:=Option.some.inj au;obtain⟨⟩:=a6;dsimp only at h|-;refine bi h fun aN h ay=>?_;refine tt ?_
 refine lX ay (fun|ak,_=>⟨[(1,.one (.ref 0 0 0 0)),(5,.one (.int .i64 (ak:Int)))],[.cells 0 6 [[.sl (p.Lattice.Names.map eS),.sl (p.Lattice.Below.map (eA2 eI)),.sl (p.Sites.map xrz),.sl (p.Vars.map xr0),.sl (p.Blocks.map xr1),.sl (p.Tasks.map xr2)]]]⟩) (fun|(.inl bn),_=>⟨[],[]⟩|(.inr ()),_=>⟨[(1,.one (.ref 0 0 0 0))],[.cells 0 6 [[.sl (p.Lattice.Names.map eS),.sl (p.Lattice.Below.map (eA2 eI)),.sl (p.Sites.map xrz),.sl (p.Vars.map xr0),.sl (p.Blocks.map xr1),.sl (p.Tasks.map xr2)]]]⟩) (fun|(.inl _)=>none|(.inr _)=>some 4) ?_ ?_
 intro i17 a7 av
 rcases aN with ae|⟨⟩
 cases av;obtain rfl:=Option.some.inj av;obtain⟨⟩:=a7;dsimp only at h|-;refine bi h fun aO h az=>?_;refine tt ?_
 refine lX az (fun|al,_=>⟨[(1,.one (.ref 0 0 0 0)),(6,.one (.int .i64 (al:Int)))],[.cells 0 6 [[.sl (p.Lattice.Names.map eS),.sl (p.Lattice.Below.map (eA2 eI)),.sl (p.Sites.map xrz),.sl (p.Vars.map xr0),.sl (p.Blocks.map xr1),.sl (p.Tasks.map xr2)]]]⟩) (fun|(.inl bo),_=>⟨[],[]⟩|(.inr ()),_=>⟨[(1,.one (.ref 0 0 0 0))],[.cells 0 6 [[.sl (p.Lattice.Names.map eS),.sl (p.Lattice.Below.map (eA2 eI)),.sl (p.Sites.map xrz),.sl (p.Vars.map xr0),.sl (p.Blocks.map xr1),.sl (p.Tasks.map xr2)]]]⟩) (fun|(.inl _)=>none|(.inr _)=>some 6) ?_ ?_
 intro i25 a8 aw
 rcases aO with ae|⟨⟩
 cases aw;obtain rfl:=Option.some.inj aw;obtain⟨⟩:=a8;dsimp only at h|-;refine bi h fun aP h aA=>?_;refine tt ?_
 refine lX aA (fun|an,_=>⟨[(1,.one (.ref 0 0 0 0)),(7,.one (.int .i64 (an:Int)))],[.cells 0 6 [[.sl (p.Lattice.Names.map eS),.sl (p.Lattice.Below.map (eA2 eI)),.sl (p.Sites.map xrz),.sl (p.Vars.map xr0),.sl (p.Blocks.map xr1),.sl (p.Tasks.map xr2)]]]⟩) (fun|(.inl bp),_=>⟨[],[]⟩|(.inr ()),_=>⟨[],[.cells 0 6 [[.sl (p.Lattice.Names.map eS),.sl (p.Lattice.Below.map (eA2 eI)),.sl (p.Sites.map xrz),.sl (p.Vars.map xr0),.sl (p.Blocks.map xr1),.sl (p.Tasks.map xr2)]]]⟩) (fun|(.inl _)=>none|(.inr _)=>some 8) ?_ ?_
 intro i31 a9 ax
 rcases aP with ae|⟨⟩
 cases ax;obtain rfl:=Option.some.inj ax;obtain⟨⟩:=a9;dsimp only at h|-;cases h;exact fin;intro aQ bI an ba bJ I af aR;obtain⟨⟩:=ba;dsimp only[zgf]at I|-;refine tr ?_;intros;refine fl I F ?_ ?_<;>intro I _ F;refine bx I F fun bq I bg F=>?_;refine bi I fun br I aB=>?_;refine tr ?_;intros;refine cS (za1 aB) ?_;refine fv I F ?_ ?_<;>intro I _ F;refine bi I fun bs I aC=>?_;refine tr ?_
 intros;refine cS (zlt aC) ?_;refine fv I F ?_ ?_<;>intro I _ F;refine bi I fun bt I aD=>?_;refine tr ?_;intros;refine cS (zbs aD) ?_;refine fv I F ?_ ?_<;>intro I _ F;cases I;refine tt ?_;refine wn an F fun F=>?_;exact bk aR af ();cases I;obtain rfl:=sr af
 try dsimp only at h
 cases h;exact fin;cases I;obtain rfl:=sr af
 try dsimp only at h
 cases h;exact fin;cases I;obtain rfl:=sr af
 try dsimp only at h
 cases h;exact fin;cases I;refine tt ?_;exact xt af aQ ();intro aS bK al bb bL ad ao aT;obtain⟨⟩:=bb;dsimp only[zgg]at ad|-;refine tr ?_;intros;refine fl ad F ?_ ?_<;>intro ad _ F;refine bx ad F fun bu ad bh F=>?_;refine bi ad fun bw ad aE=>?_;refine tr ?_;intros;refine cD (zon aE) ?_;refine tr ?_;intros;refine fv ad F ?_ ?_<;>intro ad _ F;cases ad;refine tt ?_;refine wn al F fun F=>?_
 exact bk aT ao ();cases ad;obtain rfl:=sr ao
 try dsimp only at h
 cases h;exact fin;cases ad;refine tt ?_;exact xt ao aS ();intro aU bM ak bc bN U ai aV;obtain⟨⟩:=bc;dsimp only[zgh]at U|-;refine tr ?_;intros;refine fl U F ?_ ?_<;>intro U _ F;refine bx U F fun bz U bj F=>?_;refine bi U fun bA U aF=>?_;refine tr ?_;intros;refine cD (za1 aF) ?_;refine tr ?_;intros;refine fv U F ?_ ?_<;>intro U _ F;refine bi U fun bB U aG=>?_;refine tr ?_;intros;refine cD (zbs aG) ?_
 refine tr ?_;intros;refine fv U F ?_ ?_<;>intro U _ F;refine bi U fun bC U aH=>?_;refine tr ?_;intros;refine cD (zbs aH) ?_;refine tr ?_;intros;refine fv U F ?_ ?_<;>intro U _ F;cases U;refine tt ?_;refine wn ak F fun F=>?_;exact bk aV ai ();cases U;obtain rfl:=sr ai
 try dsimp only at h
 cases h;exact fin;cases U;obtain rfl:=sr ai
 try dsimp only at h
 cases h;exact fin;cases U;obtain rfl:=sr ai
 try dsimp only at h
 cases h;exact fin;cases U;refine tt ?_;exact xt ai aU ();intro aW bO ar bf bP aa aj aX;obtain⟨⟩:=bf;dsimp only[zgi]at aa|-;refine tr ?_;intros;refine fl aa F ?_ ?_<;>intro aa _ F;refine bx aa F fun bD aa bl F=>?_;refine bi aa fun bE aa aI=>?_;refine tr ?_;intros;refine cD (zbs aI) ?_;refine tr ?_;intros;refine fv aa F ?_ ?_<;>intro aa _ F;refine bi aa fun bF aa aJ=>?_;refine tr ?_
 intros;refine cD (zbs aJ) ?_;refine tr ?_;intros;refine fv aa F ?_ ?_<;>intro aa _ F;cases aa;refine tt ?_;refine wn ar F fun F=>?_;exact bk aX aj ();cases aa;obtain rfl:=sr aj
 try dsimp only at h
 cases h;exact fin;cases aa;obtain rfl:=sr aj
 try dsimp only at h
 cases h;exact fin;cases aa;refine tt ?_;exact xt aj aW ();intro af3 m3 aq a3 o3 ab ho3 ih3;obtain⟨⟩:=a3;dsimp only[zgj]at ab|-;refine tr ?_;intros;refine fl ab F ?_ ?_<;>intro ab _ F;refine bx ab F fun bQ ab bG F=>?_;refine bi ab fun bR ab aY=>?_;refine tr ?_;intros;refine cD (za1 aY) ?_;refine tr ?_;intros;refine fv ab F ?_ ?_<;>intro ab _ F;refine bi ab fun bS ab aZ=>?_;refine tr ?_
 intros;refine cD (zsp aZ) ?_;refine tr ?_;intros;refine fi ab F ?_ ?_<;>intro ab _ F;cases ab;refine tt ?_;refine wn aq F fun F=>?_;exact bk ih3 ho3 ();cases ab;obtain rfl:=sr ho3
 try dsimp only at h
 cases h;exact fin;cases ab;obtain rfl:=sr ho3
 try dsimp only at h
 cases h;exact fin;cases ab;refine tt ?_;exact xt ho3 af3 ()
theorem zsx {e:xrx} {r:Bool} (h:zbu e=some r):
  Pu Tryz.prog 215 [.agg (xr3 e)] (.one (.bool r)):=by
 have F:=trivial;have R:=trivial
 refine pA Tryz.func215 ?_;simp only[Tryz.f215];unfold zbu at h;refine tr ?_;intros;refine fi h F ?_ ?_<;>intro h _ F;refine fi h F ?_ ?_<;>intro h _ F;refine tt ?_;refine fi h F ?_ ?_<;>intro h _ F;refine fi h F ?_ ?_<;>intro h _ F;refine tt ?_;refine fi h F ?_ ?_<;>intro h _ F;cases h;exact fin;cases h;exact fin;refine tt ?_;refine fi h F ?_ ?_<;>intro h _ F;exact(by omega:False).elim
 refine tt ?_;refine fi h F ?_ ?_<;>intro h _ F;exact(by omega:False).elim;refine fi h F ?_ ?_<;>intro h _ F;exact(by omega:False).elim;cases h;exact fin;refine fi h F ?_ ?_<;>intro h _ F;refine tt ?_;refine fi h F ?_ ?_<;>intro h _ F;refine tt ?_;refine fi h F ?_ ?_<;>intro h _ F;cases h;exact fin;cases h;exact fin;refine fi h F ?_ ?_<;>intro h _ F;exact(by omega:False).elim
 refine tt ?_;refine fi h F ?_ ?_<;>intro h _ F;exact(by omega:False).elim;cases h;exact fin;refine tt ?_;refine fi h F ?_ ?_<;>intro h _ F;refine tt ?_;refine fi h F ?_ ?_<;>intro h _ F;refine fi h F ?_ ?_<;>intro h _ F;cases h;exact fin;cases h;exact fin;cases h;exact fin;refine fi h F ?_ ?_<;>intro h _ F;refine tt ?_;refine fi h F ?_ ?_<;>intro h _ F;refine fi h F ?_ ?_<;>intro h _ F
 cases h;exact fin;cases h;exact fin;cases h;exact fin;cases h;exact fin;cases h;exact fin;refine fi h F ?_ ?_<;>intro h _ F;refine tt ?_;refine fi h F ?_ ?_<;>intro h _ F;refine fi h F ?_ ?_<;>intro h _ F;refine tt ?_;refine fi h F ?_ ?_<;>intro h _ F;refine bi h fun ad h I=>?_;refine tr ?_;intros;refine cS (za1 I) ?_;cases h;exact fin;cases h;exact fin;cases h;exact fin;refine fi h F ?_ ?_<;>intro h _ F
 refine tt ?_;refine fi h F ?_ ?_<;>intro h _ F;refine fi h F ?_ ?_<;>intro h _ F;refine tt ?_;refine fi h F ?_ ?_<;>intro h _ F;refine bi h fun ae h U=>?_;refine tr ?_;intros;refine cS (za1 U) ?_;cases h;exact fin;cases h;exact fin;cases h;exact fin;cases h;exact fin;refine tt ?_;refine fi h F ?_ ?_<;>intro h _ F;refine fi h F ?_ ?_<;>intro h _ F;refine tt ?_;refine fi h F ?_ ?_<;>intro h _ F
 refine bi h fun af h aa=>?_;refine tr ?_;intros;refine cS (za1 aa) ?_;cases h;exact fin;cases h;exact fin;cases h;exact fin;refine fi h F ?_ ?_<;>intro h _ F;refine tt ?_;refine fi h F ?_ ?_<;>intro h _ F;refine fi h F ?_ ?_<;>intro h _ F;refine bi h fun ai h ab=>?_;refine tr ?_;intros;refine cS (za1 ab) ?_;cases h;exact fin;cases h;exact fin;cases h;exact fin;refine tt ?_;refine fi h F ?_ ?_<;>intro h _ F
 refine fi h F ?_ ?_<;>intro h _ F;refine tt ?_;refine fi h F ?_ ?_<;>intro h _ F;cases h;exact fin;cases h;exact fin;cases h;exact fin;refine fi h F ?_ ?_<;>intro h _ F;refine tt ?_;refine fi h F ?_ ?_<;>intro h _ F;refine fi h F ?_ ?_<;>intro h _ F;cases h;exact fin;cases h;exact fin;cases h;exact fin;refine tt ?_;refine fi h F ?_ ?_<;>intro h _ F;refine fi h F ?_ ?_<;>intro h _ F
 refine tt ?_;refine fi h F ?_ ?_<;>intro h _ F;refine fi h F ?_ ?_<;>intro h _ F;cases h;exact fin;cases h;exact fin;cases h;exact fin;cases h;exact fin;cases h;exact fin;cases h;exact fin
theorem zpg {I:xrx->Int->Int->Option Int} {e:xrx} {deep:Int} {left:Int} {r:Int}
  (U:∀(x0:xrx) (x1:Int) (x2:Int) (r:Int),I x0 x1 x2=some r->Pu Tryz.prog 213 [.agg (xr3 x0),.one (.int .i64 x1),.one (.int .i64 x2)] (.one (.int .i64 r))) (h:zeo I e deep left=some r):
  Pu Tryz.prog 213 [.agg (xr3 e),.one (.int .i64 deep),.one (.int .i64 left)] (.one (.int .i64 r)):=by
 have F:=trivial;have R:=trivial
 refine pA Tryz.func213 ?_;simp only[Tryz.f213];unfold zeo at h;refine fi h F ?_ ?_<;>intro h _ F;cases h;exact fin;refine tt ?_;refine fi h F ?_ ?_<;>intro h _ F;cases h;exact fin;refine bi h fun ar h aj=>?_;refine tr ?_;intros;refine cS (zsx aj) ?_;refine fv h F ?_ ?_<;>intro h _ F;refine bi h fun af h ak=>?_;refine tt ?_
 refine lX ak (fun|(ab,ad),_=>⟨[(1,.one (.int .i64 deep)),(2,.one (.int .i64 ab)),(3,.one (.ref 0 0 0 0)),(7,.one (.int .i64 (ad:Int)))],[.cells 0 5 [[.int .i64 e.Op,.int .i64 e.N,.int .i64 e.Kind,.str e.Name,.sl (e.Args.map xr3)]]]⟩) (fun|af,_=>⟨[(2,.one (.int .i64 af))],[.cells 0 5 [[.int .i64 e.Op,.int .i64 e.N,.int .i64 e.Kind,.str e.Name,.sl (e.Args.map xr3)]]]⟩) (fun _=>some 0) ?_ ?_
 intro i5 b5 an;obtain rfl:=Option.some.inj an;obtain⟨⟩:=b5;dsimp only at h|-;cases h;exact fin;intro ai m5 s5 a5 o5 aa ae ao;obtain⟨ab,ad⟩:=s5;obtain⟨⟩:=a5;dsimp only[zi3]at aa|-;refine tr ?_;intros;refine fl aa F ?_ ?_<;>intro aa _ F;refine fi aa F ?_ ?_<;>intro aa _ F;refine bx aa F fun au aa aq F=>?_;refine bi aa fun av aa al=>?_;refine tr ?_;intros;refine cS (U _ _ _ _ al) ?_
 cases aa;refine tt ?_;refine wn ad F fun F=>?_;exact bk ao ae ();cases aa;refine tt ?_;exact xt ae ai ();cases aa;refine tt ?_;exact xt ae ai ();cases h;exact fin
theorem zpf (n:Nat):(∀(I:xrx) (U:Int) (x2:Int) (r:Int),(zc9 n) I U x2=some r->Pu Tryz.prog 213 [.agg (xr3 I),.one (.int .i64 U),.one (.int .i64 x2)] (.one (.int .i64 r))):=by
 induction n with
 |zero=>exact fun _ _ _ r h=>(by cases h)
 |succ n ih=>
  have aa:=ih
  exact fun _ _ _ r h=>zpg aa h
theorem zrk {e:xrx} {deep:Int} {left:Int} {r:Int} (h:zkp e deep left=some r):Pu Tryz.prog 213 [.agg (xr3 e),.one (.int .i64 deep),.one (.int .i64 left)] (.one (.int .i64 r)):=(zpf 1000000) _ _ _ _ h
theorem za4 {n:Int} {r:Str} (h:zaw n=some r):
  Pu Tryz.prog 191 [.one (.int .i64 n)] (.one (.str r)):=by
 have F:=trivial;have R:=trivial
 refine pA Tryz.func191 ?_;simp only[Tryz.f191];unfold zaw at h;refine bi h fun ai h af=>?_;refine tt ?_
 refine lX af (fun|(U,aa),_=>⟨[(0,.one (.int .i64 U)),(3,.one (.str aa))],[]⟩) (fun|(ab,ad),_=>⟨[(0,.one (.int .i64 ab)),(3,.one (.str ad))],[]⟩) (fun _=>some 0) ?_ ?_
 intro i4 b4 aj;obtain rfl:=Option.some.inj aj;obtain⟨ab,ad⟩:=ai;obtain⟨⟩:=b4;dsimp only at h|-;refine nd h F fun h F=>?_;refine nd h F fun h F=>?_;cases h;exact fin;intro ak m4 s4 a4 o4 I ae al;obtain⟨U,aa⟩:=s4;obtain⟨⟩:=a4;dsimp only[zic]at I|-;refine fi I F ?_ ?_<;>intro I _ F;refine nd I F fun I F=>?_;refine nd I F fun I F=>?_;cases I;refine tr ?_;intros;exact bk al ae ()
 cases I;refine tt ?_;exact xt ae ak ()
theorem zi2 {op:Int} {r:Int} (h:zc0 op=some r):
  Pu Tryz.prog 217 [.one (.int .i64 op)] (.one (.int .i64 r)):=by
 have F:=trivial;have R:=trivial
 refine pA Tryz.func217 ?_;simp only[Tryz.f217];unfold zc0 at h;refine fi h F ?_ ?_<;>intro h _ F;cases h;exact fin;refine tt ?_;refine fi h F ?_ ?_<;>intro h _ F;cases h;exact fin;refine fi h F ?_ ?_<;>intro h _ F;cases h;exact fin;refine fi h F ?_ ?_<;>intro h _ F;refine tt ?_;refine fi h F ?_ ?_<;>intro h _ F;cases h;exact fin;refine fi h F ?_ ?_<;>intro h _ F;cases h;exact fin
 refine tt ?_;refine fi h F ?_ ?_<;>intro h _ F;cases h;exact fin;refine fi h F ?_ ?_<;>intro h _ F;refine tt ?_;refine fi h F ?_ ?_<;>intro h _ F;cases h;exact fin;refine fi h F ?_ ?_<;>intro h _ F;cases h;exact fin;refine tt ?_;refine fi h F ?_ ?_<;>intro h _ F;cases h;exact fin;cases h;exact fin;refine tt ?_;refine fi h F ?_ ?_<;>intro h _ F;cases h;exact fin;refine fi h F ?_ ?_<;>intro h _ F
 cases h;exact fin;cases h;exact fin;refine tt ?_;refine fi h F ?_ ?_<;>intro h _ F;cases h;exact fin;refine fi h F ?_ ?_<;>intro h _ F;cases h;exact fin;refine tt ?_;refine fi h F ?_ ?_<;>intro h _ F;refine fi h F ?_ ?_<;>intro h _ F;cases h;exact fin;refine tt ?_;refine fi h F ?_ ?_<;>intro h _ F;cases h;exact fin;refine fi h F ?_ ?_<;>intro h _ F;cases h;exact fin;cases h;exact fin
 refine fi h F ?_ ?_<;>intro h _ F;cases h;exact fin;refine tt ?_;refine fi h F ?_ ?_<;>intro h _ F;cases h;exact fin;cases h;exact fin
theorem zrj {level:Int} {r:Str×Int} (h:zfs level=some r):
  Pu Tryz.prog 219 [.one (.int .i64 level)] (.tup [.one (.str r.1),.one (.int .i64 r.2)]):=by
 have F:=trivial;have R:=trivial
 refine pA Tryz.func219 ?_;simp only[Tryz.f219];unfold zfs at h;refine fi h F ?_ ?_<;>intro h _ F;cases h;exact fin;refine tt ?_;refine fi h F ?_ ?_<;>intro h _ F;cases h;exact fin;refine fi h F ?_ ?_<;>intro h _ F;cases h;exact fin;refine fi h F ?_ ?_<;>intro h _ F;cases h;exact fin;refine fi h F ?_ ?_<;>intro h _ F;cases h;exact fin;cases h;exact fin
theorem zsw {op:Int} {r:Str} (h:zg2 op=some r):
  Pu Tryz.prog 218 [.one (.int .i64 op)] (.one (.str r)):=by
 have F:=trivial;have R:=trivial
 refine pA Tryz.func218 ?_;simp only[Tryz.f218];unfold zg2 at h;refine bi h fun av h ai=>?_;refine tr ?_;intros;refine cS (zi2 ai) ?_;refine bi h fun al h aj=>?_;refine tr ?_;intros;refine cS (zrj aj) ?_;refine bi h fun an h ak=>?_;refine tt ?_
 refine lX ak (fun|(ae,aa,ab),_=>⟨[(0,.one (.int .i64 op)),(3,.one (.str al.1)),(5,.one (.int .i64 ae)),(6,.one (.int .i64 aa)),(7,.one (.int .i64 (ab:Int)))],[]⟩) (fun|(.inl ar),_=>⟨[],[]⟩|(.inr ()),_=>⟨[],[]⟩) (fun|(.inl _)=>none|(.inr _)=>some 0) ?_ ?_
 intro i7 b7 af
 rcases an with ao|⟨⟩
 cases af;obtain rfl:=Option.some.inj af;obtain⟨⟩:=b7;dsimp only at h|-;cases h;exact fin;intro aq m7 s7 a7 o7 I U ad;obtain⟨ae,aa,ab⟩:=s7;obtain⟨⟩:=a7;dsimp only[zjq]at I|-;refine tr ?_;intros;refine fm I F ?_ ?_<;>intro I _ F;refine tr ?_;intros;refine fi I F ?_ ?_<;>intro I _ F;refine fi I F ?_ ?_<;>intro I _ F;refine nd I F fun I F=>?_;cases I;obtain rfl:=sr U
 try dsimp only at h
 cases h;exact fin;cases I;refine tt ?_;refine wn ab F fun F=>?_;exact bk ad U ();refine bx I F fun aw I au F=>?_;refine tr ?_;intros;refine fi I F ?_ ?_<;>intro I _ F;refine fi I F ?_ ?_<;>intro I _ F;refine nd I F fun I F=>?_;cases I;obtain rfl:=sr U
 try dsimp only at h
 cases h;exact fin;cases I;refine tt ?_;refine wn ab F fun F=>?_;exact bk ad U ();cases I;refine tt ?_;refine wn ab F fun F=>?_;exact bk ad U ();cases I;refine tt ?_;exact xt U aq ()
theorem zqa {aa:xrx->Option Str} {ab:xrx->Int->Option Str} {e:xrx} {r:Str}
  (U:∀(x0:xrx) (r:Str),aa x0=some r->Pu Tryz.prog 214 [.agg (xr3 x0)] (.one (.str r)))
  (I:∀(x0:xrx) (x1:Int) (r:Str),ab x0 x1=some r->Pu Tryz.prog 216 [.agg (xr3 x0),.one (.int .i64 x1)] (.one (.str r))) (h:ze6 aa ab e=some r):
  Pu Tryz.prog 214 [.agg (xr3 e)] (.one (.str r)):=by
 have F:=trivial;have R:=trivial
 refine pA Tryz.func214 ?_;simp only[Tryz.f214];unfold ze6 at h;refine fi h F ?_ ?_<;>intro h _ F;refine tt ?_;refine fi h F ?_ ?_<;>intro h _ F;refine fi h F ?_ ?_<;>intro h _ F;cases h;exact fin;cases h;exact fin;refine fi h F ?_ ?_<;>intro h _ F;refine bi h fun aP h ao=>?_;refine tr ?_;intros;refine cS (za4 ao) ?_;refine nd h F fun h F=>?_;refine nd h F fun h F=>?_;cases h;exact fin
 refine fi h F ?_ ?_<;>intro h _ F;refine bi h fun aQ h aq=>?_;refine tr ?_;intros;refine cS (za4 aq) ?_;refine nd h F fun h F=>?_;refine nd h F fun h F=>?_;cases h;exact fin;refine bi h fun aR h ar=>?_;refine tr ?_;intros;refine cS (za4 ar) ?_;cases h;exact fin;refine tt ?_;refine fi h F ?_ ?_<;>intro h _ F;cases h;exact fin;refine fi h F ?_ ?_<;>intro h _ F;refine nd h F fun h F=>?_
 refine bi h fun aS h au=>?_;refine tr ?_;intros;refine cD (za4 au) ?_;refine nd h F fun h F=>?_;cases h;exact fin;refine fi h F ?_ ?_<;>intro h _ F;refine nd h F fun h F=>?_;refine bx h F fun aB h av F=>?_;refine bi h fun aC h ad=>?_;refine tr ?_;intros;refine cD (U _ _ ad) ?_;refine nd h F fun h F=>?_;refine nd h F fun h F=>?_;cases h;exact fin;refine fi h F ?_ ?_<;>intro h _ F
 refine nd h F fun h F=>?_;refine nd h F fun h F=>?_;refine bx h F fun aD h aw F=>?_;refine bi h fun aE h ae=>?_;refine tr ?_;intros;refine cD (U _ _ ae) ?_;refine nd h F fun h F=>?_;refine nd h F fun h F=>?_;cases h;exact fin;refine tt ?_;refine fi h F ?_ ?_<;>intro h _ F;refine bx h F fun aF h ax F=>?_;refine bi h fun aG h af=>?_;refine tr ?_;intros;refine cS (I _ _ _ af) ?_;refine nd h F fun h F=>?_
 cases h;exact fin;refine fi h F ?_ ?_<;>intro h _ F;refine bx h F fun aH h ay F=>?_;refine bi h fun aI h ai=>?_;refine tr ?_;intros;refine cS (I _ _ _ ai) ?_;refine nd h F fun h F=>?_;cases h;exact fin;refine bi h fun aJ h aj=>?_;refine tr ?_;intros;refine cS (zi2 aj) ?_;refine bx h F fun aK h az F=>?_;refine bi h fun aL h ak=>?_;refine tr ?_;intros;refine cD (I _ _ _ ak) ?_;refine nd h F fun h F=>?_
 refine bi h fun aM h al=>?_;refine tr ?_;intros;refine cD (zsw al) ?_;refine nd h F fun h F=>?_;refine nd h F fun h F=>?_;refine bx h F fun aN h aA F=>?_;refine bi h fun aO h an=>?_;refine tr ?_;intros;refine cD (I _ _ _ an) ?_;refine nd h F fun h F=>?_;cases h;exact fin
theorem zqb {U:xrx->Option Str} {aa:xrx->Int->Option Str} {e:xrx} {least:Int} {r:Str}
  (I:∀(x0:xrx) (r:Str),U x0=some r->Pu Tryz.prog 214 [.agg (xr3 x0)] (.one (.str r)))
  (ab:∀(x0:xrx) (x1:Int) (r:Str),aa x0 x1=some r->Pu Tryz.prog 216 [.agg (xr3 x0),.one (.int .i64 x1)] (.one (.str r))) (h:ze7 U aa e least=some r):
  Pu Tryz.prog 216 [.agg (xr3 e),.one (.int .i64 least)] (.one (.str r)):=by
 have F:=trivial;have R:=trivial
 refine pA Tryz.func216 ?_;simp only[Tryz.f216];unfold ze7 at h;refine bi h fun ai h ad=>?_;refine tr ?_;intros;refine cS (zi2 ad) ?_;refine fi h F ?_ ?_<;>intro h _ F;refine bi h fun aj h ae=>?_;refine tr ?_;intros;refine cS (I _ _ ae) ?_;refine nd h F fun h F=>?_;refine nd h F fun h F=>?_;cases h;exact fin;refine bi h fun ak h af=>?_;refine tr ?_;intros;refine cS (I _ _ af) ?_;cases h;exact fin
theorem zp9 (n:Nat):(∀(I:xrx) (r:Str),(zaz n).1 I=some r->Pu Tryz.prog 214 [.agg (xr3 I)] (.one (.str r)))/\(∀(I:xrx) (x1:Int) (r:Str),(zaz n).2 I x1=some r->Pu Tryz.prog 216 [.agg (xr3 I),.one (.int .i64 x1)] (.one (.str r))):=by
 induction n with
 |zero=>exact⟨fun _ r h=>(by cases h),fun _ _ r h=>(by cases h)⟩
 |succ n ih=>
  obtain⟨U,ih1⟩:=ih;exact⟨fun _ r h=>zqa U ih1 h,fun _ _ r h=>zqb U ih1 h⟩
theorem zl9 {e:xrx} {r:Str} (h:zg1 e=some r):Pu Tryz.prog 214 [.agg (xr3 e)] (.one (.str r)):=(zp9 1000000).1 _ _ h
theorem zbg {e:xrx} {r:Bool} (h:zap e=some r):
  Pu Tryz.prog 208 [.agg (xr3 e)] (.one (.bool r)):=by
 have F:=trivial;have R:=trivial
 refine pA Tryz.func208 ?_;simp only[Tryz.f208];unfold zap at h;refine bi h fun aa h I=>?_;refine tr ?_;intros;refine cS (zrk I) ?_;refine fi h F ?_ ?_<;>intro h _ F;refine bi h fun ab h U=>?_;refine tr ?_;intros;refine cS (zl9 U) ?_;cases h;exact fin;cases h;exact fin
theorem zp6 {e:xrx} {r:Bool} (h:ze3 e=some r):
  Pu Tryz.prog 207 [.agg (xr3 e)] (.one (.bool r)):=by
 have F:=trivial;have R:=trivial
 refine pA Tryz.func207 ?_;simp only[Tryz.f207];unfold ze3 at h;refine fi h F ?_ ?_<;>intro h _ F;refine bi h fun ad h I=>?_;refine tr ?_;intros;refine cS (zbg I) ?_;cases h;exact fin;refine tt ?_;refine fi h F ?_ ?_<;>intro h _ F;refine tr ?_;intros;refine fi h F ?_ ?_<;>intro h _ F;refine fi h F ?_ ?_<;>intro h _ F;refine tt ?_;refine fi h F ?_ ?_<;>intro h _ F;refine bi h fun ae h U=>?_
 refine tr ?_;intros;refine cS (za1 U) ?_;refine fv h F ?_ ?_<;>intro h _ F;refine bx h F fun af h ab F=>?_;refine bi h fun ai h aa=>?_;refine tr ?_;intros;refine cS (zbg aa) ?_;cases h;exact fin;cases h;exact fin;cases h;exact fin;cases h;exact fin;cases h;exact fin;cases h;exact fin
theorem zqd {I:xrx->xrx->Option Bool} {a:xrx} {b:xrx} {r:Bool}
  (U:∀(x0:xrx) (x1:xrx) (r:Bool),I x0 x1=some r->Pu Tryz.prog 163 [.agg (xr3 x0),.agg (xr3 x1)] (.one (.bool r))) (h:zcp I a b=some r):
  Pu Tryz.prog 163 [.agg (xr3 a),.agg (xr3 b)] (.one (.bool r)):=by
 have F:=trivial;have R:=trivial
 refine pA Tryz.func163 ?_;simp only[Tryz.f163];unfold zcp at h;refine tt ?_;refine fi h F ?_ ?_<;>intro h _ F;refine tt ?_;refine fi h F ?_ ?_<;>intro h _ F;refine tt ?_;refine fi h F ?_ ?_<;>intro h _ F;refine tt ?_;refine fi h F ?_ ?_<;>intro h _ F;refine tr ?_;intros;refine fi h F ?_ ?_<;>intro h _ F;refine bi h fun ai h ae=>?_;refine tt ?_
 refine lX ae (fun|ab,_=>⟨[(2,.one (.ref 0 0 0 0)),(3,.one (.ref 1 0 0 0)),(5,.one (.int .i64 (ab:Int)))],[.cells 0 5 [[.int .i64 a.Op,.int .i64 a.N,.int .i64 a.Kind,.str a.Name,.sl (a.Args.map xr3)]],.cells 0 5 [[.int .i64 b.Op,.int .i64 b.N,.int .i64 b.Kind,.str b.Name,.sl (b.Args.map xr3)]]]⟩) (fun|(.inl an),_=>⟨[],[]⟩|(.inr ()),_=>⟨[],[.cells 0 5 [[.int .i64 a.Op,.int .i64 a.N,.int .i64 a.Kind,.str a.Name,.sl (a.Args.map xr3)]],.cells 0 5 [[.int .i64 b.Op,.int .i64 b.N,.int .i64 b.Kind,.str b.Name,.sl (b.Args.map xr3)]]]⟩) (fun|(.inl _)=>none|(.inr _)=>some 0) ?_ ?_
 intro i3 b3 ad
 rcases ai with aj|⟨⟩
 cases ad;obtain rfl:=Option.some.inj ad;obtain⟨⟩:=b3;dsimp only at h|-;cases h;exact fin;intro af3 m3 ab a3 o3 aa ho3 ih3;obtain⟨⟩:=a3;dsimp only[zep]at aa|-;refine tr ?_;intros;refine fl aa F ?_ ?_<;>intro aa _ F;refine bx aa F fun ao aa ak F=>?_;refine bx aa F fun aq aa al F=>?_;refine bi aa fun ar aa af=>?_;refine tr ?_;intros;refine cD (U _ _ _ af) ?_;refine tr ?_;intros;refine fv aa F ?_ ?_<;>intro aa _ F
 cases aa;refine tt ?_;refine wn ab F fun F=>?_;exact bk ih3 ho3 ();cases aa;obtain rfl:=sr ho3
 try dsimp only at h
 cases h;exact fin;cases aa;refine tt ?_;exact xt ho3 af3 ();cases h;exact fin;cases h;exact fin;cases h;exact fin;cases h;exact fin;cases h;exact fin
theorem zqc (n:Nat):(∀(I:xrx) (U:xrx) (r:Bool),(zdn n) I U=some r->Pu Tryz.prog 163 [.agg (xr3 I),.agg (xr3 U)] (.one (.bool r))):=by
 induction n with
 |zero=>exact fun _ _ r h=>(by cases h)
 |succ n ih=>
  have aa:=ih
  exact fun _ _ r h=>zqd aa h
theorem zhp {a:xrx} {b:xrx} {r:Bool} (h:zdk a b=some r):Pu Tryz.prog 163 [.agg (xr3 a),.agg (xr3 b)] (.one (.bool r)):=(zqc 1000000) _ _ _ h
theorem zbd {e:xrx} {r:Bool} (h:zas e=some r):
  Pu Tryz.prog 209 [.agg (xr3 e)] (.one (.bool r)):=by
 have F:=trivial;have R:=trivial
 refine pA Tryz.func209 ?_;simp only[Tryz.f209];unfold zas at h;refine bi h fun U h I=>?_;refine tr ?_;intros;refine cS (zhp I) ?_;cases h;exact fin
theorem zjo {l:List xrx} {r:Bool} (h:zco l=some r):
  Pu Tryz.prog 210 [.one (.sl (l.map xr3))] (.one (.bool r)):=by
 have F:=trivial;have R:=trivial
 refine pA Tryz.func210 ?_;simp only[Tryz.f210];unfold zco at h;refine bi h fun ae h ab=>?_;refine tt ?_
 refine lX ab (fun|U,_=>⟨[(0,.one (.sl (l.map xr3))),(3,.one (.int .i64 (U:Int)))],[]⟩) (fun|(.inl aj),_=>⟨[],[]⟩|(.inr ()),_=>⟨[],[]⟩) (fun|(.inl _)=>none|(.inr _)=>some 0) ?_ ?_
 intro i3 b3 aa
 rcases ae with af|⟨⟩
 cases aa;obtain rfl:=Option.some.inj aa;obtain⟨⟩:=b3;dsimp only at h|-;cases h;exact fin;intro af3 m3 U a3 o3 I ho3 ih3;obtain⟨⟩:=a3;dsimp only[zjp]at I|-;refine tr ?_;intros;refine fl I F ?_ ?_<;>intro I _ F;refine bx I F fun ak I ai F=>?_;refine bi I fun al I ad=>?_;refine tr ?_;intros;refine cS (zbg ad) ?_;refine fv I F ?_ ?_<;>intro I _ F;cases I;refine tt ?_;refine wn U F fun F=>?_
 exact bk ih3 ho3 ();cases I;obtain rfl:=sr ho3
 try dsimp only at h
 cases h;exact fin;cases I;refine tt ?_;exact xt ho3 af3 ()
theorem zl8 {s:xry} {r:Bool} (h:zcn s=some r):
  Pu Tryz.prog 200 [.agg (xr6 s)] (.one (.bool r)):=by
 have F:=trivial;have R:=trivial
 refine pA Tryz.func200 ?_;simp only[Tryz.f200];unfold zcn at h;refine tr ?_;intros;refine fi h F ?_ ?_<;>intro h _ F;refine tr ?_;intros;refine fi h F ?_ ?_<;>intro h _ F;refine fi h F ?_ ?_<;>intro h _ F;refine tt ?_;refine fi h F ?_ ?_<;>intro h _ F;refine tr ?_;intros;refine fi h F ?_ ?_<;>intro h _ F;refine bi h fun aO h aq=>?_;refine tr ?_;intros;refine cS (zp6 aq) ?_;refine fv h F ?_ ?_<;>intro h _ F
 refine bi h fun aP h ar=>?_;refine tr ?_;intros;refine cS (zbg ar) ?_;cases h;exact fin;cases h;exact fin;cases h;exact fin;cases h;exact fin;cases h;exact fin;refine fi h F ?_ ?_<;>intro h _ F;refine fi h F ?_ ?_<;>intro h _ F;refine tr ?_;intros;refine fi h F ?_ ?_<;>intro h _ F;refine bi h fun aQ h au=>?_;refine tr ?_;intros;refine cS (zbd au) ?_;refine fv h F ?_ ?_<;>intro h _ F
 refine bi h fun aR h av=>?_;refine tr ?_;intros;refine cS (zbg av) ?_;cases h;exact fin;cases h;exact fin;cases h;exact fin;cases h;exact fin;refine fi h F ?_ ?_<;>intro h _ F;refine tt ?_;refine fi h F ?_ ?_<;>intro h _ F;refine tr ?_;intros;refine fi h F ?_ ?_<;>intro h _ F;refine tr ?_;intros;refine fi h F ?_ ?_<;>intro h _ F;refine bi h fun aS h aw=>?_;refine tr ?_;intros;refine cS (zbd aw) ?_
 refine fv h F ?_ ?_<;>intro h _ F;refine bi h fun aT h ax=>?_;refine tr ?_;intros;refine cS (zbg ax) ?_;cases h;exact fin;cases h;exact fin;cases h;exact fin;cases h;exact fin;cases h;exact fin;refine fi h F ?_ ?_<;>intro h _ F;refine bi h fun aU h ay=>?_;refine tr ?_;intros;refine cS (za1 ay) ?_;refine fv h F ?_ ?_<;>intro h _ F;refine tr ?_;intros;refine fi h F ?_ ?_<;>intro h _ F
 refine bi h fun aV h az=>?_;refine tr ?_;intros;refine cS (zjo az) ?_;refine fv h F ?_ ?_<;>intro h _ F;refine tr ?_;intros;refine fi h F ?_ ?_<;>intro h _ F;refine bi h fun aW h aA=>?_;refine tr ?_;intros;refine cS (zbd aA) ?_;refine fv h F ?_ ?_<;>intro h _ F;refine bi h fun aB h I=>?_;refine tr ?_;intros;refine cS (zbd I) ?_;cases h;exact fin;cases h;exact fin;cases h;exact fin
 cases h;exact fin;cases h;exact fin;cases h;exact fin;refine tt ?_;refine fi h F ?_ ?_<;>intro h _ F;refine fi h F ?_ ?_<;>intro h _ F;refine bi h fun aC h U=>?_;refine tr ?_;intros;refine cS (za1 U) ?_;refine fv h F ?_ ?_<;>intro h _ F;refine bi h fun aD h aa=>?_;refine tr ?_;intros;refine cS (zbd aa) ?_;refine fv h F ?_ ?_<;>intro h _ F;refine bi h fun aE h ab=>?_;refine tr ?_
 intros;refine cS (zbd ab) ?_;refine fv h F ?_ ?_<;>intro h _ F;refine tr ?_;intros;refine fi h F ?_ ?_<;>intro h _ F;refine bi h fun aF h ad=>?_;refine tr ?_;intros;refine cS (zjo ad) ?_;cases h;exact fin;cases h;exact fin;cases h;exact fin;cases h;exact fin;cases h;exact fin;cases h;exact fin;cases h;exact fin;refine fi h F ?_ ?_<;>intro h _ F;cases h;exact fin;refine tt ?_;refine fi h F ?_ ?_<;>intro h _ F
 refine fi h F ?_ ?_<;>intro h _ F;refine tr ?_;intros;refine fi h F ?_ ?_<;>intro h _ F;refine bi h fun aG h ae=>?_;refine tr ?_;intros;refine cS (zbd ae) ?_;refine fv h F ?_ ?_<;>intro h _ F;refine bi h fun aH h af=>?_;refine tr ?_;intros;refine cS (zbg af) ?_;cases h;exact fin;cases h;exact fin;cases h;exact fin;cases h;exact fin;refine fi h F ?_ ?_<;>intro h _ F;refine fi h F ?_ ?_<;>intro h _ F
 refine tr ?_;intros;refine fi h F ?_ ?_<;>intro h _ F;refine tr ?_;intros;refine fi h F ?_ ?_<;>intro h _ F;refine bi h fun aI h ai=>?_;refine tr ?_;intros;refine cS (zbd ai) ?_;refine fv h F ?_ ?_<;>intro h _ F;refine bi h fun aJ h aj=>?_;refine tr ?_;intros;refine cS (zbg aj) ?_;cases h;exact fin;cases h;exact fin;cases h;exact fin;cases h;exact fin;cases h;exact fin;refine fi h F ?_ ?_<;>intro h _ F
 refine bi h fun aK h ak=>?_;refine tr ?_;intros;refine cS (za1 ak) ?_;refine fv h F ?_ ?_<;>intro h _ F;refine tr ?_;intros;refine fi h F ?_ ?_<;>intro h _ F;refine bi h fun aL h al=>?_;refine tr ?_;intros;refine cS (zjo al) ?_;refine fv h F ?_ ?_<;>intro h _ F;refine tr ?_;intros;refine fi h F ?_ ?_<;>intro h _ F;refine bi h fun aM h an=>?_;refine tr ?_;intros;refine cS (zbd an) ?_
 refine fv h F ?_ ?_<;>intro h _ F;refine bi h fun aN h ao=>?_;refine tr ?_;intros;refine cS (zbd ao) ?_;cases h;exact fin;cases h;exact fin;cases h;exact fin;cases h;exact fin;cases h;exact fin;cases h;exact fin;refine fi h F ?_ ?_<;>intro h _ F;cases h;exact fin;cases h;exact fin
theorem zbf {e:xrx} {r:Str} (h:za3 e=some r):
  Pu Tryz.prog 211 [.agg (xr3 e)] (.one (.str r)):=by
 have F:=trivial;have R:=trivial
 refine pA Tryz.func211 ?_;simp only[Tryz.f211];unfold za3 at h;refine bi h fun aa h I=>?_;refine tr ?_;intros;refine cS (zbg I) ?_;refine fv h F ?_ ?_<;>intro h _ F;refine bi h fun ab h U=>?_;refine tr ?_;intros;refine cS (zl9 U) ?_;cases h;exact fin;cases h;exact fin
theorem zrh {e:xrx} {r:Str} (h:zfr e=some r):
  Pu Tryz.prog 212 [.agg (xr3 e)] (.one (.str r)):=by
 have F:=trivial;have R:=trivial
 refine pA Tryz.func212 ?_;simp only[Tryz.f212];unfold zfr at h;refine fi h F ?_ ?_<;>intro h _ F;refine bx h F fun aa h U F=>?_;refine bi h fun ab h I=>?_;refine tr ?_;intros;refine cS (zbf I) ?_;refine nd h F fun h F=>?_;refine nd h F fun h F=>?_;cases h;exact fin;cases h;exact fin
theorem zhn {s:xry} {r:Str} (h:zcm s=some r):
  Pu Tryz.prog 201 [.agg (xr6 s)] (.one (.str r)):=by
 have F:=trivial;have R:=trivial
 refine pA Tryz.func201 ?_;simp only[Tryz.f201];unfold zcm at h;refine fi h F ?_ ?_<;>intro h _ F;refine bi h fun aN h ao=>?_;refine tr ?_;intros;refine cD (zbf ao) ?_;refine bi h fun aO h aq=>?_;refine tr ?_;intros;refine cD (zrh aq) ?_;refine nd h F fun h F=>?_;refine nd h F fun h F=>?_;refine bi h fun aP h ar=>?_;refine tr ?_;intros;refine cD (zbf ar) ?_;refine nd h F fun h F=>?_
 refine nd h F fun h F=>?_;cases h;exact fin;refine tt ?_;refine fi h F ?_ ?_<;>intro h _ F;refine bi h fun aQ h au=>?_;refine tr ?_;intros;refine cS (zbf au) ?_;refine nd h F fun h F=>?_;refine nd h F fun h F=>?_;cases h;exact fin;refine fi h F ?_ ?_<;>intro h _ F;refine bi h fun aE h af=>?_;refine tr ?_;intros;refine cS (zbf af) ?_;refine nd h F fun h F=>?_;refine nd h F fun h F=>?_
 cases h;exact fin;refine fi h F ?_ ?_<;>intro h _ F;refine nd h F fun h F=>?_;refine nd h F fun h F=>?_;refine bx h F fun aF h aA F=>?_;refine bi h fun aG h ai=>?_;refine tr ?_;intros;refine cD (zbf ai) ?_;refine nd h F fun h F=>?_;refine nd h F fun h F=>?_;refine bx h F fun aH h aB F=>?_;refine bi h fun aI h aj=>?_;refine tr ?_;intros;refine cD (zbf aj) ?_;refine nd h F fun h F=>?_
 refine nd h F fun h F=>?_;cases h;exact fin;refine nd h F fun h F=>?_;refine bi h fun ab h ak=>?_;refine tr ?_;intros
 refine lX ak (fun|(ad,U),_=>⟨[(1,.one (.ref 0 0 0 0)),(3,.one (.str ad)),(4,.one (.int .i64 (U:Int)))],[.cells 0 15 [[.int .i64 s.Kind,.str s.Name,.int .i64 s.Target.Op,.int .i64 s.Target.N,.int .i64 s.Target.Kind,.str s.Target.Name,.sl (s.Target.Args.map xr3),.int .i64 s.Value.Op,.int .i64 s.Value.N,.int .i64 s.Value.Kind,.str s.Value.Name,.sl (s.Value.Args.map xr3),.sl (s.Args.map xr3),.sl (s.Body.map xr6),.sl (s.Else.map xr6)]]]⟩) (fun|ab,_=>⟨[(3,.one (.str ab))],[.cells 0 15 [[.int .i64 s.Kind,.str s.Name,.int .i64 s.Target.Op,.int .i64 s.Target.N,.int .i64 s.Target.Kind,.str s.Target.Name,.sl (s.Target.Args.map xr3),.int .i64 s.Value.Op,.int .i64 s.Value.N,.int .i64 s.Value.Kind,.str s.Value.Name,.sl (s.Value.Args.map xr3),.sl (s.Args.map xr3),.sl (s.Body.map xr6),.sl (s.Else.map xr6)]]]⟩) (fun _=>some 1) ?_ ?_
 intro i28 ax av;obtain rfl:=Option.some.inj av;obtain⟨⟩:=ax;dsimp only at h|-;refine nd h F fun h F=>?_;cases h;exact fin;intro aw aR ay az aS I aa ae;obtain⟨ad,U⟩:=ay;obtain⟨⟩:=az;dsimp only[zjn]at I|-;refine tr ?_;intros;refine fl I F ?_ ?_<;>intro I _ F;refine fi I F ?_ ?_<;>intro I _ F;refine nd I F fun I F=>?_;refine bx I F fun aJ I aC F=>?_;refine bi I fun aK I al=>?_
 refine tr ?_;intros;refine cS (zbf al) ?_;refine nd I F fun I F=>?_;cases I;refine tr ?_;intros;refine wn U F fun F=>?_;exact bk ae aa ();refine bx I F fun aL I aD F=>?_;refine bi I fun aM I an=>?_;refine tr ?_;intros;refine cS (zbf an) ?_;refine nd I F fun I F=>?_;cases I;refine tr ?_;intros;refine wn U F fun F=>?_;exact bk ae aa ();cases I;refine tt ?_;exact xt aa aw ()
theorem zpe {ab:(List xry)->Int->Int->Option Int} {l:List xry} {deep:Int} {left:Int} {r:Int}
  (I:∀(x0:List xry) (x1:Int) (x2:Int) (r:Int),ab x0 x1 x2=some r->Pu Tryz.prog 188 [.one (.sl (x0.map xr6)),.one (.int .i64 x1),.one (.int .i64 x2)] (.one (.int .i64 r))) (h:zc8 ab l deep left=some r):
  Pu Tryz.prog 188 [.one (.sl (l.map xr6)),.one (.int .i64 deep),.one (.int .i64 left)] (.one (.int .i64 r)):=by
 have F:=trivial;have R:=trivial
 refine pA Tryz.func188 ?_;simp only[Tryz.f188];unfold zc8 at h;refine fi h F ?_ ?_<;>intro h _ F;cases h;exact fin;refine tr ?_;intros;refine fi h F ?_ ?_<;>intro h _ F;refine fi h F ?_ ?_<;>intro h _ F;cases h;exact fin;refine tr ?_;intros;refine fi h F ?_ ?_<;>intro h _ F;cases h;exact fin;refine bi h fun aJ h aD=>?_;refine tt ?_
 refine lX aD (fun|(al,an),_=>⟨[(0,.one (.sl (l.map xr6))),(1,.one (.int .i64 deep)),(2,.one (.int .i64 al)),(7,.one (.int .i64 (an:Int)))],[]⟩) (fun|(.inl aO),_=>⟨[],[]⟩|(.inr af),_=>⟨[(2,.one (.int .i64 af))],[]⟩) (fun|(.inl _)=>none|(.inr _)=>some 0) ?_ ?_
 intro i4 b4 aB
 rcases aJ with aq|af
 cases aB;obtain rfl:=Option.some.inj aB;obtain⟨⟩:=b4;dsimp only at h|-;cases h;exact fin;intro aC m4 s4 a4 o4 aa ai ar;obtain⟨al,an⟩:=s4;obtain⟨⟩:=a4;dsimp only[zi1]at aa|-;refine tr ?_;intros;refine fl aa F ?_ ?_<;>intro aa _ F;refine fi aa F ?_ ?_<;>intro aa _ F;refine bx aa F fun aW aa aP F=>?_;refine bi aa fun aX aa aE=>?_;refine tr ?_;intros;refine cS (zl8 aE) ?_;refine fv aa F ?_ ?_<;>intro aa _ F
 refine bi aa fun aY aa aF=>?_;refine tr ?_;intros;refine cS (zhn aF) ?_;refine tr ?_;intros;refine fi aa F ?_ ?_<;>intro aa _ F;refine bi aa fun aZ aa aG=>?_;refine tr ?_;intros;refine cS (I _ _ _ _ aG) ?_;refine fi aa F ?_ ?_<;>intro aa _ F;refine bi aa fun a5 aa aH=>?_;refine tr ?_;intros;refine cS (I _ _ _ _ aH) ?_;cases aa;refine tt ?_;refine wn an F fun F=>?_;exact bk ar ai ();cases aa
 refine tt ?_;refine wn an F fun F=>?_;exact bk ar ai ();cases aa;refine tt ?_;refine wn an F fun F=>?_;exact bk ar ai ();cases aa;obtain rfl:=sr ai
 try dsimp only at h
 cases h;exact fin;cases aa;refine tt ?_;exact xt ai aC ();cases aa;refine tt ?_;exact xt ai aC ();refine tr ?_;intros;refine fi h F ?_ ?_<;>intro h _ F;cases h;exact fin;refine bi h fun aI h aw=>?_;refine tt ?_
 refine lX aw (fun|(aj,ae),_=>⟨[(0,.one (.sl (l.map xr6))),(1,.one (.int .i64 deep)),(2,.one (.int .i64 aj)),(7,.one (.int .i64 (ae:Int)))],[]⟩) (fun|(.inl aQ),_=>⟨[],[]⟩|(.inr ak),_=>⟨[(2,.one (.int .i64 ak))],[]⟩) (fun|(.inl _)=>none|(.inr _)=>some 0) ?_ ?_
 intro i15 aK au
 rcases aI with aq|ak
 cases au;obtain rfl:=Option.some.inj au;obtain⟨⟩:=aK;dsimp only at h|-;cases h;exact fin;intro av a6 aL aM a7 U ad ao;obtain⟨aj,ae⟩:=aL;obtain⟨⟩:=aM;dsimp only[zi0]at U|-;refine tr ?_;intros;refine fl U F ?_ ?_<;>intro U _ F;refine fi U F ?_ ?_<;>intro U _ F;refine bx U F fun aR U aN F=>?_;refine bi U fun aS U ax=>?_;refine tr ?_;intros;refine cS (zl8 ax) ?_;refine fv U F ?_ ?_<;>intro U _ F
 refine bi U fun aT U ay=>?_;refine tr ?_;intros;refine cS (zhn ay) ?_;refine tr ?_;intros;refine fi U F ?_ ?_<;>intro U _ F;refine bi U fun aU U az=>?_;refine tr ?_;intros;refine cS (I _ _ _ _ az) ?_;refine fi U F ?_ ?_<;>intro U _ F;refine bi U fun aV U aA=>?_;refine tr ?_;intros;refine cS (I _ _ _ _ aA) ?_;cases U;refine tt ?_;refine wn ae F fun F=>?_;exact bk ao ad ();cases U;refine tt ?_
 refine wn ae F fun F=>?_;exact bk ao ad ();cases U;refine tt ?_;refine wn ae F fun F=>?_;exact bk ao ad ();cases U;obtain rfl:=sr ad
 try dsimp only at h
 cases h;exact fin;cases U;refine tt ?_;exact xt ad av ();cases U;refine tt ?_;exact xt ad av ()
theorem zpd (n:Nat):(∀(I:List xry) (U:Int) (x2:Int) (r:Int),(zce n) I U x2=some r->Pu Tryz.prog 188 [.one (.sl (I.map xr6)),.one (.int .i64 U),.one (.int .i64 x2)] (.one (.int .i64 r))):=by
 induction n with
 |zero=>exact fun _ _ _ r h=>(by cases h)
 |succ n ih=>
  have aa:=ih
  exact fun _ _ _ r h=>zpe aa h
theorem zri {l:List xry} {deep:Int} {left:Int} {r:Int} (h:znm l deep left=some r):Pu Tryz.prog 188 [.one (.sl (l.map xr6)),.one (.int .i64 deep),.one (.int .i64 left)] (.one (.int .i64 r)):=(zpd 1000000) _ _ _ _ h
theorem zsv {l:List xry} {r:Bool} (h:zg0 l=some r):
  Pu Tryz.prog 160 [.one (.sl (l.map xr6))] (.one (.bool r)):=by
 have F:=trivial;have R:=trivial
 refine pA Tryz.func160 ?_;simp only[Tryz.f160];unfold zg0 at h;refine bi h fun U h I=>?_;refine tr ?_;intros;refine cS (zri I) ?_;cases h;exact fin
theorem zrf {p:xrw} {r:Bool} (h:zfp p=some r):
  Pu Tryz.prog 120 [.agg (xr5 p)] (.one (.bool r)):=by
 have F:=trivial;have R:=trivial
 refine pA Tryz.func120 ?_;simp only[Tryz.f120];unfold zfp at h;refine bi h fun ao h ak=>?_;refine tt ?_
 refine lX ak (fun|ab,_=>⟨[(1,.one (.ref 0 0 0 0)),(3,.one (.int .i64 (ab:Int)))],[.cells 0 6 [[.sl (p.Lattice.Names.map eS),.sl (p.Lattice.Below.map (eA2 eI)),.sl (p.Sites.map xrz),.sl (p.Vars.map xr0),.sl (p.Blocks.map xr1),.sl (p.Tasks.map xr2)]]]⟩) (fun|(.inl av),_=>⟨[],[]⟩|(.inr ()),_=>⟨[],[.cells 0 6 [[.sl (p.Lattice.Names.map eS),.sl (p.Lattice.Below.map (eA2 eI)),.sl (p.Sites.map xrz),.sl (p.Vars.map xr0),.sl (p.Blocks.map xr1),.sl (p.Tasks.map xr2)]]]⟩) (fun|(.inl _)=>none|(.inr _)=>some 0) ?_ ?_
 intro i3 b3 ai
 rcases ao with ae|⟨⟩
 cases ai;obtain rfl:=Option.some.inj ai;obtain⟨⟩:=b3;dsimp only at h|-;cases h;exact fin;intro af3 m3 ab a3 o3 I ho3 ih3;obtain⟨⟩:=a3;dsimp only[zgd]at I|-;refine tr ?_;intros;refine fl I F ?_ ?_<;>intro I _ F;refine bx I F fun aa I aw F=>?_;refine tr ?_;intros;refine fi I F ?_ ?_<;>intro I _ F;cases I;obtain rfl:=sr ho3
 try dsimp only at h
 cases h;exact fin;refine fi I F ?_ ?_<;>intro I _ F;cases I;obtain rfl:=sr ho3
 try dsimp only at h
 cases h;exact fin;refine tt ?_;refine fi I F ?_ ?_<;>intro I _ F;cases I;obtain rfl:=sr ho3
 try dsimp only at h
 cases h;exact fin;refine fi I F ?_ ?_<;>intro I _ F;cases I;obtain rfl:=sr ho3
 try dsimp only at h
 cases h;exact fin;refine tr ?_;intros;refine fi I F ?_ ?_<;>intro I _ F;refine bi I fun az I al=>?_;refine tr ?_;intros;refine cS (zsv al) ?_;refine fv I F ?_ ?_<;>intro I _ F;refine bi I fun aq I an=>?_;refine tt ?_
 refine lX an (fun|af,_=>⟨[(1,.one (.ref 0 0 0 0)),(3,.one (.int .i64 (ab:Int))),(4,.one (.ref 1 0 0 0)),(5,.one (.int .i64 (af:Int)))],[.cells 0 6 [[.sl (p.Lattice.Names.map eS),.sl (p.Lattice.Below.map (eA2 eI)),.sl (p.Sites.map xrz),.sl (p.Vars.map xr0),.sl (p.Blocks.map xr1),.sl (p.Tasks.map xr2)]],.cells 0 4 [[.int .i64 aa.Every,.int .i64 aa.Priority,.sl (aa.Budget.map eI),.sl (aa.Body.map xr6)]]]⟩) (fun|(.inl ax),_=>⟨[],[]⟩|(.inr ()),_=>⟨[(1,.one (.ref 0 0 0 0)),(3,.one (.int .i64 (ab:Int)))],[.cells 0 6 [[.sl (p.Lattice.Names.map eS),.sl (p.Lattice.Below.map (eA2 eI)),.sl (p.Sites.map xrz),.sl (p.Vars.map xr0),.sl (p.Blocks.map xr1),.sl (p.Tasks.map xr2)]],.cells 0 4 [[.int .i64 aa.Every,.int .i64 aa.Priority,.sl (aa.Budget.map eI),.sl (aa.Body.map xr6)]]]⟩) (fun|(.inl _)=>none|(.inr _)=>some 2) ?_ ?_
 intro i8 b8 aj
 rcases aq with ae|⟨⟩
 cases aj;obtain rfl:=Option.some.inj aj;obtain⟨⟩:=b8;dsimp only at I|-;cases I;refine tt ?_;refine wn ab F fun F=>?_;exact bk ih3 ho3 ();intro ar m8 af a8 o8 U ad au;obtain⟨⟩:=a8;dsimp only[zgc]at U|-;refine tr ?_;intros;refine fl U F ?_ ?_<;>intro U _ F;refine bx U F fun aA U ay F=>?_;refine tr ?_;intros;refine fi U F ?_ ?_<;>intro U _ F;cases U;obtain rfl:=sr ad
 try dsimp only at I
 cases I;obtain rfl:=sr ho3
 try dsimp only at h
 cases h;exact fin;refine tr ?_;intros;refine fi U F ?_ ?_<;>intro U _ F;cases U;obtain rfl:=sr ad
 try dsimp only at I
 cases I;obtain rfl:=sr ho3
 try dsimp only at h
 cases h;exact fin;cases U;refine tt ?_;refine wn af F fun F=>?_;exact bk au ad ();cases U;refine tt ?_;exact xt ad ar ();cases I;obtain rfl:=sr ho3
 try dsimp only at h
 cases h;exact fin;cases I;obtain rfl:=sr ho3
 try dsimp only at h
 cases h;exact fin;cases I;refine tt ?_;exact xt ho3 af3 ()
theorem zff {n:Int} {r:Str} (h:zb3 n=some r):
  Pu Tryz.prog 190 [.one (.int .i64 n)] (.one (.str r)):=by
 have F:=trivial;have R:=trivial
 refine pA Tryz.func190 ?_;simp only[Tryz.f190];unfold zb3 at h;refine fi h F ?_ ?_<;>intro h _ F;refine bi h fun aa h I=>?_;refine tr ?_;intros;refine cS (za4 I) ?_;refine nd h F fun h F=>?_;cases h;exact fin;refine bi h fun ab h U=>?_;refine tr ?_;intros;refine cS (za4 U) ?_;cases h;exact fin
theorem zts {t:xsc} {r:Str} (h:zh3 t=some r):
  Pu Tryz.prog 189 [.agg (xsi t)] (.one (.str r)):=by
 have F:=trivial;have R:=trivial
 refine pA Tryz.func189 ?_;simp only[Tryz.f189];unfold zh3 at h;refine by_ h F fun ab h I F=>?_;refine ln F fun F=>?_
 have R:=And.intro (show([[.str []],[.str ([66,79,79,76]:Str)],[.str ([73,78,84]:Str)],[.str ([68,73,78,84]:Str)],[.str ([84,73,77,69]:Str)]]:List (List C))[t.Kind.toNat]? =some [.str ab]from ykc (f:=eS) I) R
 refine tr ?_;intros;refine fi h F ?_ ?_<;>intro h _ F;cases h;exact fin;refine bi h fun ad h U=>?_;refine tr ?_;intros;refine cD (zff U) ?_;refine nd h F fun h F=>?_;refine nd h F fun h F=>?_;refine bi h fun ae h aa=>?_;refine tr ?_;intros;refine cD (zff aa) ?_;refine nd h F fun h F=>?_;refine nd h F fun h F=>?_;refine nd h F fun h F=>?_;cases h;exact fin
theorem ztt {p:xrw} {v:xr7} {r:Str} (h:zh4 p v=some r):
  Pu Tryz.prog 161 [.agg (xr5 p),.agg (xr0 v)] (.one (.str r)):=by
 have F:=trivial;have R:=trivial
 refine pA Tryz.func161 ?_;simp only[Tryz.f161];unfold zh4 at h;refine by_ h F fun ad h aa F=>?_;refine ln F fun F=>?_
 have R:=And.intro (show([[.str ([86,65,82,32]:Str)],[.str ([73,78,80,85,84,32]:Str)],[.str ([79,85,84,80,85,84,32]:Str)]]:List (List C))[v.Mode.toNat]? =some [.str ad]from ykc (f:=eS) aa) R
 refine nd h F fun h F=>?_;refine nd h F fun h F=>?_;refine bi h fun aj h ab=>?_;refine tr ?_;intros;refine cD (zts ab) ?_;refine nd h F fun h F=>?_;refine tr ?_;intros;refine fi h F ?_ ?_<;>intro h _ F;refine by_ h F fun ak h ae F=>?_;refine nd h F fun h F=>?_;refine nd h F fun h F=>?_;refine tr ?_;intros;refine fi h F ?_ ?_<;>intro h _ F;refine fi h F ?_ ?_<;>intro h _ F;refine tt ?_
 refine fi h F ?_ ?_<;>intro h _ F;refine nd h F fun h F=>?_;refine nd h F fun h F=>?_;cases h;exact fin;refine nd h F fun h F=>?_;refine nd h F fun h F=>?_;cases h;exact fin;refine bi h fun af h I=>?_;refine tr ?_;intros;refine cS (zff I) ?_;refine nd h F fun h F=>?_;refine nd h F fun h F=>?_;refine nd h F fun h F=>?_;cases h;exact fin;refine nd h F fun h F=>?_;cases h;exact fin
 refine fi h F ?_ ?_<;>intro h _ F;refine tt ?_;refine fi h F ?_ ?_<;>intro h _ F;refine fi h F ?_ ?_<;>intro h _ F;refine nd h F fun h F=>?_;refine nd h F fun h F=>?_;cases h;exact fin;refine nd h F fun h F=>?_;refine nd h F fun h F=>?_;cases h;exact fin;refine bi h fun ai h U=>?_;refine tr ?_;intros;refine cS (zff U) ?_;refine nd h F fun h F=>?_;refine nd h F fun h F=>?_;refine nd h F fun h F=>?_
 cases h;exact fin;refine nd h F fun h F=>?_;cases h;exact fin
theorem zp5 {ad:(List xry)->Option Str} {l:List xry} {r:Str}
  (U:∀(x0:List xry) (r:Str),ad x0=some r->Pu Tryz.prog 202 [.one (.sl (x0.map xr6))] (.one (.str r))) (h:ze2 ad l=some r):
  Pu Tryz.prog 202 [.one (.sl (l.map xr6))] (.one (.str r)):=by
 have F:=trivial;have R:=trivial
 refine pA Tryz.func202 ?_;simp only[Tryz.f202];unfold ze2 at h;refine bi h fun ao h ar=>?_;refine tt ?_
 refine lX ar (fun|(aq,aa),_=>⟨[(0,.one (.sl (l.map xr6))),(3,.one (.str aq)),(4,.one (.int .i64 (aa:Int)))],[]⟩) (fun|ao,_=>⟨[(3,.one (.str ao))],[]⟩) (fun _=>some 0) ?_ ?_
 intro i4 b4 aw;obtain rfl:=Option.some.inj aw;obtain⟨⟩:=b4;dsimp only at h|-;cases h;exact fin;intro ax m4 s4 a4 o4 I ab ae;obtain⟨aq,aa⟩:=s4;obtain⟨⟩:=a4;dsimp only[zjm]at I|-;refine tr ?_;intros;refine fl I F ?_ ?_<;>intro I _ F;refine fi I F ?_ ?_<;>intro I _ F;refine nd I F fun I F=>?_;refine bx I F fun aH I az F=>?_;refine bi I fun aI I au=>?_;refine tr ?_;intros;refine cS (zhn au) ?_
 refine nd I F fun I F=>?_;refine bi I fun aJ I av=>?_;refine tr ?_;intros;refine cS (U _ _ av) ?_;refine fi I F ?_ ?_<;>intro I _ F;refine tr ?_;intros;refine fi I F ?_ ?_<;>intro I _ F;refine nd I F fun I F=>?_;refine tr ?_;intros;refine fi I F ?_ ?_<;>intro I _ F;refine bi I fun aA I af=>?_;refine tr ?_;intros;refine cS (U _ _ af) ?_;refine nd I F fun I F=>?_;refine nd I F fun I F=>?_
 refine nd I F fun I F=>?_;refine nd I F fun I F=>?_;cases I;refine tr ?_;intros;refine wn aa F fun F=>?_;exact bk ae ab ();refine nd I F fun I F=>?_;cases I;refine tr ?_;intros;refine wn aa F fun F=>?_;exact bk ae ab ();refine fi I F ?_ ?_<;>intro I _ F;refine nd I F fun I F=>?_;refine nd I F fun I F=>?_;cases I;refine tr ?_;intros;refine wn aa F fun F=>?_;exact bk ae ab ();refine fi I F ?_ ?_<;>intro I _ F
 refine nd I F fun I F=>?_;refine nd I F fun I F=>?_;cases I;refine tr ?_;intros;refine wn aa F fun F=>?_;exact bk ae ab ();cases I;refine tt ?_;refine wn aa F fun F=>?_;exact bk ae ab ();refine nd I F fun I F=>?_;refine tr ?_;intros;refine fi I F ?_ ?_<;>intro I _ F;refine nd I F fun I F=>?_;refine tr ?_;intros;refine fi I F ?_ ?_<;>intro I _ F;refine bi I fun aB I ai=>?_;refine tr ?_
 intros;refine cS (U _ _ ai) ?_;refine nd I F fun I F=>?_;refine nd I F fun I F=>?_;refine nd I F fun I F=>?_;refine nd I F fun I F=>?_;cases I;refine tr ?_;intros;refine wn aa F fun F=>?_;exact bk ae ab ();refine nd I F fun I F=>?_;cases I;refine tr ?_;intros;refine wn aa F fun F=>?_;exact bk ae ab ();refine fi I F ?_ ?_<;>intro I _ F;refine nd I F fun I F=>?_;refine nd I F fun I F=>?_
 cases I;refine tr ?_;intros;refine wn aa F fun F=>?_;exact bk ae ab ();refine fi I F ?_ ?_<;>intro I _ F;refine nd I F fun I F=>?_;refine nd I F fun I F=>?_;cases I;refine tr ?_;intros;refine wn aa F fun F=>?_;exact bk ae ab ();cases I;refine tt ?_;refine wn aa F fun F=>?_;exact bk ae ab ();refine bx I F fun aC I ay F=>?_;refine bi I fun aD I aj=>?_;refine tr ?_;intros;refine cS (zhn aj) ?_
 refine nd I F fun I F=>?_;refine bi I fun aE I ak=>?_;refine tr ?_;intros;refine cS (U _ _ ak) ?_;refine fi I F ?_ ?_<;>intro I _ F;refine tr ?_;intros;refine fi I F ?_ ?_<;>intro I _ F;refine nd I F fun I F=>?_;refine tr ?_;intros;refine fi I F ?_ ?_<;>intro I _ F;refine bi I fun aF I al=>?_;refine tr ?_;intros;refine cS (U _ _ al) ?_;refine nd I F fun I F=>?_;refine nd I F fun I F=>?_
 refine nd I F fun I F=>?_;refine nd I F fun I F=>?_;cases I;refine tr ?_;intros;refine wn aa F fun F=>?_;exact bk ae ab ();refine nd I F fun I F=>?_;cases I;refine tr ?_;intros;refine wn aa F fun F=>?_;exact bk ae ab ();refine fi I F ?_ ?_<;>intro I _ F;refine nd I F fun I F=>?_;refine nd I F fun I F=>?_;cases I;refine tr ?_;intros;refine wn aa F fun F=>?_;exact bk ae ab ();refine fi I F ?_ ?_<;>intro I _ F
 refine nd I F fun I F=>?_;refine nd I F fun I F=>?_;cases I;refine tr ?_;intros;refine wn aa F fun F=>?_;exact bk ae ab ();cases I;refine tt ?_;refine wn aa F fun F=>?_;exact bk ae ab ();refine nd I F fun I F=>?_;refine tr ?_;intros;refine fi I F ?_ ?_<;>intro I _ F;refine nd I F fun I F=>?_;refine tr ?_;intros;refine fi I F ?_ ?_<;>intro I _ F;refine bi I fun aG I an=>?_;refine tr ?_
 intros;refine cS (U _ _ an) ?_;refine nd I F fun I F=>?_;refine nd I F fun I F=>?_;refine nd I F fun I F=>?_;refine nd I F fun I F=>?_;cases I;refine tr ?_;intros;refine wn aa F fun F=>?_;exact bk ae ab ();refine nd I F fun I F=>?_;cases I;refine tr ?_;intros;refine wn aa F fun F=>?_;exact bk ae ab ();refine fi I F ?_ ?_<;>intro I _ F;refine nd I F fun I F=>?_;refine nd I F fun I F=>?_
 cases I;refine tr ?_;intros;refine wn aa F fun F=>?_;exact bk ae ab ();refine fi I F ?_ ?_<;>intro I _ F;refine nd I F fun I F=>?_;refine nd I F fun I F=>?_;cases I;refine tr ?_;intros;refine wn aa F fun F=>?_;exact bk ae ab ();cases I;refine tt ?_;refine wn aa F fun F=>?_;exact bk ae ab ();cases I;refine tt ?_;exact xt ab ax ()
theorem zp4 (n:Nat):(∀(I:List xry) (r:Str),(ze1 n) I=some r->Pu Tryz.prog 202 [.one (.sl (I.map xr6))] (.one (.str r))):=by
 induction n with
 |zero=>exact fun _ r h=>(by cases h)
 |succ n ih=>
  have U:=ih
  exact fun _ r h=>zp5 U h
theorem zsr {l:List xry} {r:Str} (h:zn7 l=some r):Pu Tryz.prog 202 [.one (.sl (l.map xr6))] (.one (.str r)):=(zp4 1000000) _ _ h
theorem zst {l:List xry} {r:Str} (h:zgz l=some r):
  Pu Tryz.prog 192 [.one (.sl (l.map xr6))] (.one (.str r)):=by
 have F:=trivial;have R:=trivial
 refine pA Tryz.func192 ?_;simp only[Tryz.f192];unfold zgz at h;refine bi h fun U h I=>?_;refine tr ?_;intros;refine cS (zsr I) ?_;cases h;exact fin
theorem zso {p:xrw} {t:xse} {r:Str} (h:zgw p t=some r):
  Pu Tryz.prog 162 [.agg (xr5 p),.agg (xr2 t)] (.one (.str r)):=by
 have F:=trivial;have R:=trivial
 refine pA Tryz.func162 ?_;simp only[Tryz.f162];unfold zgw at h;refine bi h fun aE h ak=>?_;refine tr ?_;intros;refine cD (za4 ak) ?_;refine nd h F fun h F=>?_;refine nd h F fun h F=>?_;refine bi h fun aF h al=>?_;refine tr ?_;intros;refine cD (za4 al) ?_;refine nd h F fun h F=>?_;refine bi h fun af h an=>?_;refine tr ?_;intros
 refine lX an (fun|(ai,U),_=>⟨[(2,.one (.ref 0 0 0 0)),(3,.one (.ref 1 0 0 0)),(5,.one (.str ai)),(6,.one (.int .i64 (U:Int)))],[.cells 0 6 [[.sl (p.Lattice.Names.map eS),.sl (p.Lattice.Below.map (eA2 eI)),.sl (p.Sites.map xrz),.sl (p.Vars.map xr0),.sl (p.Blocks.map xr1),.sl (p.Tasks.map xr2)]],.cells 0 4 [[.int .i64 t.Every,.int .i64 t.Priority,.sl (t.Budget.map eI),.sl (t.Body.map xr6)]]]⟩) (fun|af,_=>⟨[(3,.one (.ref 1 0 0 0)),(5,.one (.str af))],[.cells 0 6 [[.sl (p.Lattice.Names.map eS),.sl (p.Lattice.Below.map (eA2 eI)),.sl (p.Sites.map xrz),.sl (p.Vars.map xr0),.sl (p.Blocks.map xr1),.sl (p.Tasks.map xr2)]],.cells 0 4 [[.int .i64 t.Every,.int .i64 t.Priority,.sl (t.Budget.map eI),.sl (t.Body.map xr6)]]]⟩) (fun _=>some 0) ?_ ?_
 intro i9 b9 ao;obtain rfl:=Option.some.inj ao;obtain⟨⟩:=b9;dsimp only at h|-;refine nd h F fun h F=>?_;refine bi h fun ax h ab=>?_;refine tr ?_;intros;refine cS (zst ab) ?_;refine fi h F ?_ ?_<;>intro h _ F;refine nd h F fun h F=>?_;cases h;exact fin;refine nd h F fun h F=>?_;refine nd h F fun h F=>?_;refine nd h F fun h F=>?_;cases h;exact fin;intro aq m9 s9 a9 o9 I aa aj;obtain⟨ai,U⟩:=s9
 obtain⟨⟩:=a9;dsimp only[zjk]at I|-;refine tr ?_;intros;refine fl I F ?_ ?_<;>intro I _ F;refine fi I F ?_ ?_<;>intro I _ F;refine nd I F fun I F=>?_;refine bx I F fun ay I ar F=>?_;refine nd I F fun I F=>?_;refine bx I F fun az I au F=>?_;refine bi I fun aA I ad=>?_;refine tr ?_;intros;refine cD (za4 ad) ?_;refine nd I F fun I F=>?_;refine nd I F fun I F=>?_;cases I;refine tr ?_
 intros;refine wn U F fun F=>?_;exact bk aj aa ();refine nd I F fun I F=>?_;refine bx I F fun aB I av F=>?_;refine nd I F fun I F=>?_;refine bx I F fun aC I aw F=>?_;refine bi I fun aD I ae=>?_;refine tr ?_;intros;refine cD (za4 ae) ?_;refine nd I F fun I F=>?_;refine nd I F fun I F=>?_;cases I;refine tr ?_;intros;refine wn U F fun F=>?_;exact bk aj aa ();cases I;refine tt ?_;exact xt aa aq ()
theorem zsn {p:xrw} {r:Str} (h:zgv p=some r):
  Pu Tryz.prog 121 [.agg (xr5 p)] (.one (.str r)):=by
 have F:=trivial;have R:=trivial
 refine pA Tryz.func121 ?_;simp only[Tryz.f121];unfold zgv at h;refine bi h fun aN h aQ=>?_;refine tt ?_
 refine lX aQ (fun|(aO,an),_=>⟨[(1,.one (.ref 0 0 0 0)),(3,.one (.str aO)),(4,.one (.int .i64 (an:Int)))],[.cells 0 6 [[.sl (p.Lattice.Names.map eS),.sl (p.Lattice.Below.map (eA2 eI)),.sl (p.Sites.map xrz),.sl (p.Vars.map xr0),.sl (p.Blocks.map xr1),.sl (p.Tasks.map xr2)]]]⟩) (fun|aN,_=>⟨[(1,.one (.ref 0 0 0 0)),(3,.one (.str aN))],[.cells 0 6 [[.sl (p.Lattice.Names.map eS),.sl (p.Lattice.Below.map (eA2 eI)),.sl (p.Sites.map xrz),.sl (p.Vars.map xr0),.sl (p.Blocks.map xr1),.sl (p.Tasks.map xr2)]]]⟩) (fun _=>some 0) ?_ ?_
 intro i4 b4 bb;obtain rfl:=Option.some.inj bb;obtain⟨⟩:=b4;dsimp only at h|-;refine bi h fun ao h aG=>?_;refine tt ?_
 refine lX aG (fun|(aq,af),_=>⟨[(1,.one (.ref 0 0 0 0)),(3,.one (.str aq)),(5,.one (.int .i64 (af:Int)))],[.cells 0 6 [[.sl (p.Lattice.Names.map eS),.sl (p.Lattice.Below.map (eA2 eI)),.sl (p.Sites.map xrz),.sl (p.Vars.map xr0),.sl (p.Blocks.map xr1),.sl (p.Tasks.map xr2)]]]⟩) (fun|ao,_=>⟨[(1,.one (.ref 0 0 0 0)),(3,.one (.str ao))],[.cells 0 6 [[.sl (p.Lattice.Names.map eS),.sl (p.Lattice.Below.map (eA2 eI)),.sl (p.Sites.map xrz),.sl (p.Vars.map xr0),.sl (p.Blocks.map xr1),.sl (p.Tasks.map xr2)]]]⟩) (fun _=>some 2) ?_ ?_
 intro i13 bc aR;obtain rfl:=Option.some.inj aR;obtain⟨⟩:=bc;dsimp only at h|-;refine bi h fun ar h aH=>?_;refine tt ?_
 refine lX aH (fun|(au,ai),_=>⟨[(1,.one (.ref 0 0 0 0)),(3,.one (.str au)),(6,.one (.int .i64 (ai:Int)))],[.cells 0 6 [[.sl (p.Lattice.Names.map eS),.sl (p.Lattice.Below.map (eA2 eI)),.sl (p.Sites.map xrz),.sl (p.Vars.map xr0),.sl (p.Blocks.map xr1),.sl (p.Tasks.map xr2)]]]⟩) (fun|ar,_=>⟨[(1,.one (.ref 0 0 0 0)),(3,.one (.str ar))],[.cells 0 6 [[.sl (p.Lattice.Names.map eS),.sl (p.Lattice.Below.map (eA2 eI)),.sl (p.Sites.map xrz),.sl (p.Vars.map xr0),.sl (p.Blocks.map xr1),.sl (p.Tasks.map xr2)]]]⟩) (fun _=>some 4) ?_ ?_
 intro i26 bf aS;obtain rfl:=Option.some.inj aS;obtain⟨⟩:=bf;dsimp only at h|-;refine bi h fun av h aI=>?_;refine tt ?_
 refine lX aI (fun|(aw,aj),_=>⟨[(1,.one (.ref 0 0 0 0)),(3,.one (.str aw)),(8,.one (.int .i64 (aj:Int)))],[.cells 0 6 [[.sl (p.Lattice.Names.map eS),.sl (p.Lattice.Below.map (eA2 eI)),.sl (p.Sites.map xrz),.sl (p.Vars.map xr0),.sl (p.Blocks.map xr1),.sl (p.Tasks.map xr2)]]]⟩) (fun|av,_=>⟨[(1,.one (.ref 0 0 0 0)),(3,.one (.str av))],[.cells 0 6 [[.sl (p.Lattice.Names.map eS),.sl (p.Lattice.Below.map (eA2 eI)),.sl (p.Sites.map xrz),.sl (p.Vars.map xr0),.sl (p.Blocks.map xr1),.sl (p.Tasks.map xr2)]]]⟩) (fun _=>some 6) ?_ ?_
 intro i41 bg aT;obtain rfl:=Option.some.inj aT;obtain⟨⟩:=bg;dsimp only at h|-;refine bi h fun ax h aJ=>?_;refine tt ?_
 refine lX aJ (fun|(ay,ak),_=>⟨[(1,.one (.ref 0 0 0 0)),(3,.one (.str ay)),(9,.one (.int .i64 (ak:Int)))],[.cells 0 6 [[.sl (p.Lattice.Names.map eS),.sl (p.Lattice.Below.map (eA2 eI)),.sl (p.Sites.map xrz),.sl (p.Vars.map xr0),.sl (p.Blocks.map xr1),.sl (p.Tasks.map xr2)]]]⟩) (fun|ax,_=>⟨[(1,.one (.ref 0 0 0 0)),(3,.one (.str ax))],[.cells 0 6 [[.sl (p.Lattice.Names.map eS),.sl (p.Lattice.Below.map (eA2 eI)),.sl (p.Sites.map xrz),.sl (p.Vars.map xr0),.sl (p.Blocks.map xr1),.sl (p.Tasks.map xr2)]]]⟩) (fun _=>some 8) ?_ ?_
 intro i49 bh aU;obtain rfl:=Option.some.inj aU;obtain⟨⟩:=bh;dsimp only at h|-;refine bi h fun az h aK=>?_;refine tt ?_
 refine lX aK (fun|(aA,al),_=>⟨[(1,.one (.ref 0 0 0 0)),(3,.one (.str aA)),(10,.one (.int .i64 (al:Int)))],[.cells 0 6 [[.sl (p.Lattice.Names.map eS),.sl (p.Lattice.Below.map (eA2 eI)),.sl (p.Sites.map xrz),.sl (p.Vars.map xr0),.sl (p.Blocks.map xr1),.sl (p.Tasks.map xr2)]]]⟩) (fun|az,_=>⟨[(3,.one (.str az))],[.cells 0 6 [[.sl (p.Lattice.Names.map eS),.sl (p.Lattice.Below.map (eA2 eI)),.sl (p.Sites.map xrz),.sl (p.Vars.map xr0),.sl (p.Blocks.map xr1),.sl (p.Tasks.map xr2)]]]⟩) (fun _=>some 10) ?_ ?_
 intro i63 bj aV;obtain rfl:=Option.some.inj aV;obtain⟨⟩:=bj;dsimp only at h|-;cases h;exact fin;intro aW bX bl bm bY ab aB aX;obtain⟨aA,al⟩:=bl;obtain⟨⟩:=bm;dsimp only[zhd]at ab|-;refine tr ?_;intros;refine fl ab F ?_ ?_<;>intro ab _ F;refine bx ab F fun bK ab bA F=>?_;refine bi ab fun bL ab aL=>?_;refine tr ?_;intros;refine cD (zso aL) ?_;refine nd ab F fun ab F=>?_;cases ab
 refine tr ?_;intros;refine wn al F fun F=>?_;exact bk aX aB ();cases ab;refine tt ?_;exact xt aB aW ();intro aY bZ bn bo b0 U aC aZ;obtain⟨ay,ak⟩:=bn;obtain⟨⟩:=bo;dsimp only[zhe]at U|-;refine tr ?_;intros;refine fl U F ?_ ?_<;>intro U _ F;refine bx U F fun bM U bB F=>?_;refine nd U F fun U F=>?_;refine nd U F fun U F=>?_;refine nd U F fun U F=>?_;refine nd U F fun U F=>?_;refine by_ U F fun bN U bC F=>?_
 refine nd U F fun U F=>?_;refine nd U F fun U F=>?_;refine nd U F fun U F=>?_;cases U;refine tr ?_;intros;refine wn ak F fun F=>?_;exact bk aZ aC ();cases U;refine tt ?_;exact xt aC aY ();intro a5 b1 bp bq b2 ad aD a6;obtain⟨aw,aj⟩:=bp;obtain⟨⟩:=bq;dsimp only[zhf]at ad|-;refine tr ?_;intros;refine fl ad F ?_ ?_<;>intro ad _ F;refine bx ad F fun bO ad bD F=>?_;refine bi ad fun bP ad aM=>?_
 refine tr ?_;intros;refine cD (ztt aM) ?_;refine nd ad F fun ad F=>?_;cases ad;refine tr ?_;intros;refine wn aj F fun F=>?_;exact bk a6 aD ();cases ad;refine tt ?_;exact xt aD a5 ();intro a7 b3 br bs b5 I aE a8;obtain⟨au,ai⟩:=br;obtain⟨⟩:=bs;dsimp only[zhg]at I|-;refine tr ?_;intros;refine fl I F ?_ ?_<;>intro I _ F;refine bx I F fun bQ I bE F=>?_;refine nd I F fun I F=>?_;refine nd I F fun I F=>?_
 refine by_ I F fun bR I bF F=>?_;refine nd I F fun I F=>?_;refine nd I F fun I F=>?_;refine by_ I F fun bS I bG F=>?_;refine nd I F fun I F=>?_;refine nd I F fun I F=>?_;refine nd I F fun I F=>?_;cases I;refine tr ?_;intros;refine wn ai F fun F=>?_;exact bk a8 aE ();cases I;refine tt ?_;exact xt aE a7 ();intro a9 b6 bt bu b7 aa aF ba;obtain⟨aq,af⟩:=bt;obtain⟨⟩:=bu;dsimp only[zhh]at aa|-
 refine tr ?_;intros;refine fl aa F ?_ ?_<;>intro aa _ F;refine bx aa F fun bT aa bH F=>?_;refine by_ aa F fun bU aa bI F=>?_;refine nd aa F fun aa F=>?_;refine nd aa F fun aa F=>?_;refine by_ aa F fun bV aa bJ F=>?_;refine nd aa F fun aa F=>?_;refine nd aa F fun aa F=>?_;refine nd aa F fun aa F=>?_;cases aa;refine tr ?_;intros;refine wn af F fun F=>?_;exact bk ba aF ();cases aa
 refine tt ?_;exact xt aF a9 ();intro bw m4 s4 a4 o4 ae aP bz;obtain⟨aO,an⟩:=s4;obtain⟨⟩:=a4;dsimp only[zhi]at ae|-;refine tr ?_;intros;refine fl ae F ?_ ?_<;>intro ae _ F;refine bx ae F fun b8 ae bW F=>?_;refine nd ae F fun ae F=>?_;refine nd ae F fun ae F=>?_;refine nd ae F fun ae F=>?_;cases ae;refine tr ?_;intros;refine wn an F fun F=>?_;exact bk bz aP ();cases ae;refine tt ?_
 exact xt aP bw ()
theorem zd2 {p:xrw} {r:Bool} (h:zbm p=some r):
  Pu Tryz.prog 82 [.agg (xr5 p)] (.one (.bool r)):=by
 have F:=trivial;have R:=trivial
 refine pA Tryz.func82 ?_;simp only[Tryz.f82];unfold zbm at h;refine bi h fun ab h I=>?_;refine tr ?_;intros;refine cS (zrg I) ?_;refine fv h F ?_ ?_<;>intro h _ F;refine bi h fun ad h U=>?_;refine tr ?_;intros;refine cS (zrf U) ?_;refine fv h F ?_ ?_<;>intro h _ F;refine bi h fun ae h aa=>?_;refine tr ?_;intros;refine cS (zsn aa) ?_;cases h;exact fin;cases h;exact fin;cases h;exact fin
theorem zo2 {U:(List xry)->Option Int} {l:List xry} {r:Int}
  (I:∀(x0:List xry) (r:Int),U x0=some r->Pu Tryz.prog 110 [.one (.sl (x0.map xr6))] (.one (.int .i64 r))) (h:zeh U l=some r):
  Pu Tryz.prog 110 [.one (.sl (l.map xr6))] (.one (.int .i64 r)):=by
 have F:=trivial;have R:=trivial
 refine pA Tryz.func110 ?_;simp only[Tryz.f110];unfold zeh at h;refine bi h fun ae h aj=>?_;refine tt ?_
 refine lX aj (fun|(af,ab),_=>⟨[(0,.one (.sl (l.map xr6))),(3,.one (.int .i64 af)),(4,.one (.int .i64 (ab:Int)))],[]⟩) (fun|ae,_=>⟨[(3,.one (.int .i64 ae))],[]⟩) (fun _=>some 0) ?_ ?_
 intro i4 b4 aq;obtain rfl:=Option.some.inj aq;obtain⟨⟩:=b4;dsimp only at h|-;cases h;exact fin;intro ar m4 s4 a4 o4 aa ad ai;obtain⟨af,ab⟩:=s4;obtain⟨⟩:=a4;dsimp only[zim]at aa|-;refine tr ?_;intros;refine fl aa F ?_ ?_<;>intro aa _ F;refine bx aa F fun av aa au F=>?_;refine tr ?_;intros;refine fi aa F ?_ ?_<;>intro aa _ F;refine bi aa fun aw aa ak=>?_;refine tr ?_;intros;refine cD (I _ _ ak) ?_
 refine bi aa fun ax aa al=>?_;refine tr ?_;intros;refine cD (I _ _ al) ?_;cases aa;refine tr ?_;intros;refine wn ab F fun F=>?_;exact bk ai ad ();refine bi aa fun ay aa an=>?_;refine tr ?_;intros;refine cD (I _ _ an) ?_;refine bi aa fun az aa ao=>?_;refine tr ?_;intros;refine cD (I _ _ ao) ?_;cases aa;refine tr ?_;intros;refine wn ab F fun F=>?_;exact bk ai ad ();cases aa;refine tt ?_;exact xt ad ar ()
theorem zo1 (n:Nat):(∀(I:List xry) (r:Int),(zeg n) I=some r->Pu Tryz.prog 110 [.one (.sl (I.map xr6))] (.one (.int .i64 r))):=by
 induction n with
 |zero=>exact fun _ r h=>(by cases h)
 |succ n ih=>
  have U:=ih
  exact fun _ r h=>zo2 U h
theorem zq3 {l:List xry} {r:Int} (h:znj l=some r):Pu Tryz.prog 110 [.one (.sl (l.map xr6))] (.one (.int .i64 r)):=(zo1 1000000) _ _ h
theorem ztl {l:List Int} {r:Int} (h:zhz l=some r):
  Pu Tryz.prog 111 [.one (.sl (l.map eI))] (.one (.int .i64 r)):=by
 have F:=trivial;have R:=trivial
 refine pA Tryz.func111 ?_;simp only[Tryz.f111];unfold zhz at h;refine bi h fun aa h ae=>?_;refine tt ?_
 refine lX ae (fun|(ab,U),_=>⟨[(0,.one (.sl (l.map eI))),(3,.one (.int .i64 ab)),(4,.one (.int .i64 (U:Int)))],[]⟩) (fun|aa,_=>⟨[(3,.one (.int .i64 aa))],[]⟩) (fun _=>some 0) ?_ ?_
 intro i4 b4 af;obtain rfl:=Option.some.inj af;obtain⟨⟩:=b4;dsimp only at h|-;cases h;exact fin;intro ai m4 s4 a4 o4 I ad aj;obtain⟨ab,U⟩:=s4;obtain⟨⟩:=a4;dsimp only[zj2]at I|-;refine tr ?_;intros;refine fl I F ?_ ?_<;>intro I _ F;refine bx I F fun al I ak F=>?_;cases I;refine tr ?_;intros;refine wn U F fun F=>?_;exact bk aj ad ();cases I;refine tt ?_;exact xt ad ai ()
theorem zse {p:xrw} {r:Bool} (h:zgq p=some r):
  Pu Tryz.prog 77 [.agg (xr5 p)] (.one (.bool r)):=by
 have F:=trivial;have R:=trivial
 refine pA Tryz.func77 ?_;simp only[Tryz.f77];unfold zgq at h;refine bi h fun au h af=>?_;refine tr ?_;intros;refine cS (zd2 af) ?_;refine fv h F ?_ ?_<;>intro h _ F;refine tr ?_;intros;refine fi h F ?_ ?_<;>intro h _ F;cases h;exact fin;refine bi h fun al h ai=>?_;refine tt ?_
 refine lX ai (fun|(ad,U),_=>⟨[(1,.one (.ref 0 0 0 0)),(3,.one (.int .i64 ad)),(4,.one (.int .i64 (U:Int)))],[.cells 0 6 [[.sl (p.Lattice.Names.map eS),.sl (p.Lattice.Below.map (eA2 eI)),.sl (p.Sites.map xrz),.sl (p.Vars.map xr0),.sl (p.Blocks.map xr1),.sl (p.Tasks.map xr2)]]]⟩) (fun|(.inl av),_=>⟨[],[]⟩|(.inr aa),_=>⟨[(3,.one (.int .i64 aa))],[.cells 0 6 [[.sl (p.Lattice.Names.map eS),.sl (p.Lattice.Below.map (eA2 eI)),.sl (p.Sites.map xrz),.sl (p.Vars.map xr0),.sl (p.Blocks.map xr1),.sl (p.Tasks.map xr2)]]]⟩) (fun|(.inl _)=>none|(.inr _)=>some 0) ?_ ?_
 intro i5 b5 ae
 rcases al with an|aa
 cases ae;obtain rfl:=Option.some.inj ae;obtain⟨⟩:=b5;dsimp only at h|-;cases h;exact fin;intro ao m5 s5 a5 o5 I ab aq;obtain⟨ad,U⟩:=s5;obtain⟨⟩:=a5;dsimp only[zjd]at I|-;refine tr ?_;intros;refine fl I F ?_ ?_<;>intro I _ F;refine bx I F fun aw I ar F=>?_;refine bi I fun ax I aj=>?_;refine tr ?_;intros;refine cS (zq3 aj) ?_;refine bi I fun ay I ak=>?_;refine tr ?_;intros;refine cS (ztl ak) ?_
 refine fi I F ?_ ?_<;>intro I _ F;cases I;obtain rfl:=sr ab
 try dsimp only at h
 cases h;exact fin;cases I;refine tt ?_;refine wn U F fun F=>?_;exact bk aq ab ();cases I;refine tt ?_;exact xt ab ao ();cases h;exact fin
theorem zaj {l:xr4} {a:Int} {b:Int} {r:Bool} (h:zak l a b=some r):
  Pu Tryz.prog 24 [.agg (xsf l),.one (.int .i64 a),.one (.int .i64 b)] (.one (.bool r)):=by
 have F:=trivial;have R:=trivial
 refine pA Tryz.func24 ?_;simp only[Tryz.f24];unfold zak at h;refine bi h fun aS h aw=>?_;refine tr ?_;intros;refine cS (zby aw) ?_;refine fv h F ?_ ?_<;>intro h _ F;refine bi h fun aT h ax=>?_;refine tr ?_;intros;refine cS (zby ax) ?_;refine fv h F ?_ ?_<;>intro h _ F;refine nd h F fun h F=>?_
 have R:=And.intro (show List.replicate l.Names.length [.bool false]=List.map eB (List.replicate l.Names.length false) by simp[go_sem]) R
 refine by_ h F fun aU h aM F=>?_;refine ln F fun F=>?_
 have R:=And.intro (show(List.map eB (List.replicate l.Names.length false)).set a.toNat [.bool true]=List.map eB ((List.replicate l.Names.length false).set a.toNat true) by simp[go_sem,List.map_set]) R
 refine bi h fun an h ay=>?_;refine tr ?_;intros
 refine lX ay (fun|(ad,al),_=>⟨[(2,.one (.int .i64 b)),(3,.one (.ref 0 0 0 0)),(7,.one (.msl 1 0 0 ad.length)),(8,.one (.bool al))],[.cells 0 2 [[.sl (l.Names.map eS),.sl (l.Below.map (eA2 eI))]],.cells 0 1 (ad.map eB)]⟩) (fun|an,_=>⟨[(2,.one (.int .i64 b)),(7,.one (.msl 1 0 0 an.length))],[.cells 0 2 [[.sl (l.Names.map eS),.sl (l.Below.map (eA2 eI))]],.cells 0 1 (an.map eB)]⟩) (fun _=>some 0) ?_ ?_
 intro i8 b8 aC;obtain rfl:=Option.some.inj aC;obtain⟨⟩:=b8;dsimp only at h|-;refine by_ h F fun aN h aI F=>?_;cases h;exact fin;intro aD m8 s8 a8 o8 af av aE;obtain⟨ad,al⟩:=s8;obtain⟨⟩:=a8;dsimp only[zdq]at af|-;refine fv af F ?_ ?_<;>intro af _ F;refine bi af fun az af aq=>?_;refine tt ?_
 refine lX aq (fun|(U,aj,aa),_=>⟨[(2,.one (.int .i64 b)),(3,.one (.ref 0 0 0 0)),(7,.one (.msl 1 0 0 U.length)),(8,.one (.bool aj)),(9,.one (.int .i64 (aa:Int)))],[.cells 0 2 [[.sl (l.Names.map eS),.sl (l.Below.map (eA2 eI))]],.cells 0 1 (U.map eB)]⟩) (fun|(ab,ak),_=>⟨[(2,.one (.int .i64 b)),(3,.one (.ref 0 0 0 0)),(7,.one (.msl 1 0 0 ab.length)),(8,.one (.bool ak))],[.cells 0 2 [[.sl (l.Names.map eS),.sl (l.Below.map (eA2 eI))]],.cells 0 1 (ab.map eB)]⟩) (fun _=>some 2) ?_ ?_
 intro i13 aF aA;obtain rfl:=Option.some.inj aA;obtain⟨ab,ak⟩:=az;obtain⟨⟩:=aF;dsimp only at af|-;cases af;refine tt ?_;exact bk aE av ();intro aB aV aG aH aW I ae ai;obtain⟨U,aj,aa⟩:=aG;obtain⟨⟩:=aH;dsimp only[ze8]at I|-;refine tr ?_;intros;refine fl I F ?_ ?_<;>intro I _ F;refine bx I F fun ao I aJ F=>?_;refine bi I fun aO I ar=>?_;refine tr ?_;intros;refine cS (zby ar) ?_
 refine fv I F ?_ ?_<;>intro I _ F;refine bi I fun aP I au=>?_;refine tr ?_;intros;refine cS (zby au) ?_;refine fv I F ?_ ?_<;>intro I _ F;refine by_ I F fun aQ I aK F=>?_;refine tr ?_;intros;refine fv I F ?_ ?_<;>intro I _ F;refine by_ I F fun aR I aL F=>?_;refine tr ?_;intros;refine fv I F ?_ ?_<;>intro I _ F;cases I;refine tt ?_;refine wn aa F fun F=>?_;exact bk ai ae ()
 have R:=And.intro (show(List.map eB U).set ao.a1.toNat [.bool true]=List.map eB (U.set ao.a1.toNat true) by simp[go_sem,List.map_set]) R
 cases I;refine tr ?_;intros;refine wn aa F fun F=>?_;exact bk ai ae ();cases I;refine tt ?_;refine wn aa F fun F=>?_;exact bk ai ae ();cases I;refine tt ?_;refine wn aa F fun F=>?_;exact bk ai ae ();cases I;refine tt ?_;refine wn aa F fun F=>?_;exact bk ai ae ();cases I;refine tt ?_;exact xt ae aB ();cases af;refine tt ?_;exact xt av aD ();cases h;exact fin;cases h;exact fin
theorem zjt {l:xr4} {a:Int} {b:Int} {r:Int} (h:zcq l a b=some r):
  Pu Tryz.prog 89 [.agg (xsf l),.one (.int .i64 a),.one (.int .i64 b)] (.one (.int .i64 r)):=by
 have F:=trivial;have R:=trivial
 refine pA Tryz.func89 ?_;simp only[Tryz.f89];unfold zcq at h;refine bi h fun aI h aD=>?_;refine tt ?_
 refine lX aD (fun|ab,_=>⟨[(1,.one (.int .i64 a)),(2,.one (.int .i64 b)),(3,.one (.ref 0 0 0 0)),(7,.one (.int .i64 (ab:Int)))],[.cells 0 2 [[.sl (l.Names.map eS),.sl (l.Below.map (eA2 eI))]]]⟩) (fun|(.inl aO),_=>⟨[],[]⟩|(.inr ()),_=>⟨[],[.cells 0 2 [[.sl (l.Names.map eS),.sl (l.Below.map (eA2 eI))]]]⟩) (fun|(.inl _)=>none|(.inr _)=>some 0) ?_ ?_
 intro i3 b3 aA
 rcases aI with aJ|⟨⟩
 cases aA;obtain rfl:=Option.some.inj aA;obtain⟨⟩:=b3;dsimp only at h|-;cases h;exact fin;intro af3 m3 ab a3 o3 U ho3 ih3;obtain⟨⟩:=a3;dsimp only[zer]at U|-;refine tr ?_;intros;refine fl U F ?_ ?_<;>intro U _ F;refine bi U fun aV U aE=>?_;refine tr ?_;intros;refine cS (zaj aE) ?_;refine fv U F ?_ ?_<;>intro U _ F;refine bi U fun aW U aF=>?_;refine tr ?_;intros;refine cS (zaj aF) ?_
 refine bi U fun aB U aG=>?_;refine tt ?_
 refine lX aG (fun|(al,af),_=>⟨[(1,.one (.int .i64 a)),(2,.one (.int .i64 b)),(3,.one (.ref 0 0 0 0)),(7,.one (.int .i64 (ab:Int))),(8,.one (.bool al)),(9,.one (.int .i64 (af:Int)))],[.cells 0 2 [[.sl (l.Names.map eS),.sl (l.Below.map (eA2 eI))]]]⟩) (fun|aB,_=>⟨[(1,.one (.int .i64 a)),(2,.one (.int .i64 b)),(3,.one (.ref 0 0 0 0)),(7,.one (.int .i64 (ab:Int))),(8,.one (.bool aB))],[.cells 0 2 [[.sl (l.Names.map eS),.sl (l.Below.map (eA2 eI))]]]⟩) (fun _=>some 2) ?_ ?_
 intro i9 b9 aK;obtain rfl:=Option.some.inj aK;obtain⟨⟩:=b9;dsimp only at U|-;refine fv U F ?_ ?_<;>intro U _ F;cases U;obtain rfl:=sr ho3
 try dsimp only at h
 cases h;exact fin;cases U;refine tt ?_;refine wn ab F fun F=>?_;exact bk ih3 ho3 ();intro aC m9 s9 a9 o9 aa ai an;obtain⟨al,af⟩:=s9;obtain⟨⟩:=a9;dsimp only[zde]at aa|-;refine tr ?_;intros;refine fl aa F ?_ ?_<;>intro aa _ F;refine fv aa F ?_ ?_<;>intro aa _ F;refine bi aa fun aP aa ar=>?_;refine tr ?_;intros;refine cS (zaj ar) ?_;refine fv aa F ?_ ?_<;>intro aa _ F;refine bi aa fun aQ aa au=>?_
 refine tr ?_;intros;refine cS (zaj au) ?_;refine fv aa F ?_ ?_<;>intro aa _ F;refine bi aa fun aR aa av=>?_;refine tr ?_;intros;refine cS (zaj av) ?_;cases aa;refine tt ?_;refine wn af F fun F=>?_;exact bk an ai ();cases aa;refine tt ?_;refine wn af F fun F=>?_;exact bk an ai ();cases aa;refine tt ?_;refine wn af F fun F=>?_;exact bk an ai ();cases aa;refine tt ?_;exact xt ai aC ();cases aa
 refine tt ?_;exact xt ai aC ();refine bi U fun ao U aw=>?_;refine tt ?_
 refine lX aw (fun|(ak,ad),_=>⟨[(1,.one (.int .i64 a)),(2,.one (.int .i64 b)),(3,.one (.ref 0 0 0 0)),(7,.one (.int .i64 (ab:Int))),(8,.one (.bool ak)),(9,.one (.int .i64 (ad:Int)))],[.cells 0 2 [[.sl (l.Names.map eS),.sl (l.Below.map (eA2 eI))]]]⟩) (fun|ao,_=>⟨[(1,.one (.int .i64 a)),(2,.one (.int .i64 b)),(3,.one (.ref 0 0 0 0)),(7,.one (.int .i64 (ab:Int))),(8,.one (.bool ao))],[.cells 0 2 [[.sl (l.Names.map eS),.sl (l.Below.map (eA2 eI))]]]⟩) (fun _=>some 2) ?_ ?_
 intro i17 aL aH;obtain rfl:=Option.some.inj aH;obtain⟨⟩:=aL;dsimp only at U|-;refine fv U F ?_ ?_<;>intro U _ F;cases U;obtain rfl:=sr ho3
 try dsimp only at h
 cases h;exact fin;cases U;refine tt ?_;refine wn ab F fun F=>?_;exact bk ih3 ho3 ();intro aq aX aM aN aY I ae aj;obtain⟨ak,ad⟩:=aM;obtain⟨⟩:=aN;dsimp only[zdd]at I|-;refine tr ?_;intros;refine fl I F ?_ ?_<;>intro I _ F;refine fv I F ?_ ?_<;>intro I _ F;refine bi I fun aS I ax=>?_;refine tr ?_;intros;refine cS (zaj ax) ?_;refine fv I F ?_ ?_<;>intro I _ F;refine bi I fun aT I ay=>?_
 refine tr ?_;intros;refine cS (zaj ay) ?_;refine fv I F ?_ ?_<;>intro I _ F;refine bi I fun aU I az=>?_;refine tr ?_;intros;refine cS (zaj az) ?_;cases I;refine tt ?_;refine wn ad F fun F=>?_;exact bk aj ae ();cases I;refine tt ?_;refine wn ad F fun F=>?_;exact bk aj ae ();cases I;refine tt ?_;refine wn ad F fun F=>?_;exact bk aj ae ();cases I;refine tt ?_;exact xt ae aq ();cases I;refine tt ?_
 exact xt ae aq ();cases U;refine tt ?_;exact xt ho3 af3 ()
theorem zmb {l:xr4} {a:Int} {b:Int} {r:Int} (h:zev l a b=some r):
  Pu Tryz.prog 112 [.agg (xsf l),.one (.int .i64 a),.one (.int .i64 b)] (.one (.int .i64 r)):=by
 have F:=trivial;have R:=trivial
 refine pA Tryz.func112 ?_;simp only[Tryz.f112];unfold zev at h;refine bi h fun aI h aD=>?_;refine tt ?_
 refine lX aD (fun|ab,_=>⟨[(1,.one (.int .i64 a)),(2,.one (.int .i64 b)),(3,.one (.ref 0 0 0 0)),(7,.one (.int .i64 (ab:Int)))],[.cells 0 2 [[.sl (l.Names.map eS),.sl (l.Below.map (eA2 eI))]]]⟩) (fun|(.inl aO),_=>⟨[],[]⟩|(.inr ()),_=>⟨[],[.cells 0 2 [[.sl (l.Names.map eS),.sl (l.Below.map (eA2 eI))]]]⟩) (fun|(.inl _)=>none|(.inr _)=>some 0) ?_ ?_
 intro i3 b3 aA
 rcases aI with aJ|⟨⟩
 cases aA;obtain rfl:=Option.some.inj aA;obtain⟨⟩:=b3;dsimp only at h|-;cases h;exact fin;intro af3 m3 ab a3 o3 U ho3 ih3;obtain⟨⟩:=a3;dsimp only[zeq]at U|-;refine tr ?_;intros;refine fl U F ?_ ?_<;>intro U _ F;refine bi U fun aV U aE=>?_;refine tr ?_;intros;refine cS (zaj aE) ?_;refine fv U F ?_ ?_<;>intro U _ F;refine bi U fun aW U aF=>?_;refine tr ?_;intros;refine cS (zaj aF) ?_
 refine bi U fun aB U aG=>?_;refine tt ?_
 refine lX aG (fun|(al,af),_=>⟨[(1,.one (.int .i64 a)),(2,.one (.int .i64 b)),(3,.one (.ref 0 0 0 0)),(7,.one (.int .i64 (ab:Int))),(8,.one (.bool al)),(9,.one (.int .i64 (af:Int)))],[.cells 0 2 [[.sl (l.Names.map eS),.sl (l.Below.map (eA2 eI))]]]⟩) (fun|aB,_=>⟨[(1,.one (.int .i64 a)),(2,.one (.int .i64 b)),(3,.one (.ref 0 0 0 0)),(7,.one (.int .i64 (ab:Int))),(8,.one (.bool aB))],[.cells 0 2 [[.sl (l.Names.map eS),.sl (l.Below.map (eA2 eI))]]]⟩) (fun _=>some 2) ?_ ?_
 intro i9 b9 aK;obtain rfl:=Option.some.inj aK;obtain⟨⟩:=b9;dsimp only at U|-;refine fv U F ?_ ?_<;>intro U _ F;cases U;obtain rfl:=sr ho3
 try dsimp only at h
 cases h;exact fin;cases U;refine tt ?_;refine wn ab F fun F=>?_;exact bk ih3 ho3 ();intro aC m9 s9 a9 o9 aa ai an;obtain⟨al,af⟩:=s9;obtain⟨⟩:=a9;dsimp only[zdc]at aa|-;refine tr ?_;intros;refine fl aa F ?_ ?_<;>intro aa _ F;refine fv aa F ?_ ?_<;>intro aa _ F;refine bi aa fun aP aa ar=>?_;refine tr ?_;intros;refine cS (zaj ar) ?_;refine fv aa F ?_ ?_<;>intro aa _ F;refine bi aa fun aQ aa au=>?_
 refine tr ?_;intros;refine cS (zaj au) ?_;refine fv aa F ?_ ?_<;>intro aa _ F;refine bi aa fun aR aa av=>?_;refine tr ?_;intros;refine cS (zaj av) ?_;cases aa;refine tt ?_;refine wn af F fun F=>?_;exact bk an ai ();cases aa;refine tt ?_;refine wn af F fun F=>?_;exact bk an ai ();cases aa;refine tt ?_;refine wn af F fun F=>?_;exact bk an ai ();cases aa;refine tt ?_;exact xt ai aC ();cases aa
 refine tt ?_;exact xt ai aC ();refine bi U fun ao U aw=>?_;refine tt ?_
 refine lX aw (fun|(ak,ad),_=>⟨[(1,.one (.int .i64 a)),(2,.one (.int .i64 b)),(3,.one (.ref 0 0 0 0)),(7,.one (.int .i64 (ab:Int))),(8,.one (.bool ak)),(9,.one (.int .i64 (ad:Int)))],[.cells 0 2 [[.sl (l.Names.map eS),.sl (l.Below.map (eA2 eI))]]]⟩) (fun|ao,_=>⟨[(1,.one (.int .i64 a)),(2,.one (.int .i64 b)),(3,.one (.ref 0 0 0 0)),(7,.one (.int .i64 (ab:Int))),(8,.one (.bool ao))],[.cells 0 2 [[.sl (l.Names.map eS),.sl (l.Below.map (eA2 eI))]]]⟩) (fun _=>some 2) ?_ ?_
 intro i17 aL aH;obtain rfl:=Option.some.inj aH;obtain⟨⟩:=aL;dsimp only at U|-;refine fv U F ?_ ?_<;>intro U _ F;cases U;obtain rfl:=sr ho3
 try dsimp only at h
 cases h;exact fin;cases U;refine tt ?_;refine wn ab F fun F=>?_;exact bk ih3 ho3 ();intro aq aX aM aN aY I ae aj;obtain⟨ak,ad⟩:=aM;obtain⟨⟩:=aN;dsimp only[zdb]at I|-;refine tr ?_;intros;refine fl I F ?_ ?_<;>intro I _ F;refine fv I F ?_ ?_<;>intro I _ F;refine bi I fun aS I ax=>?_;refine tr ?_;intros;refine cS (zaj ax) ?_;refine fv I F ?_ ?_<;>intro I _ F;refine bi I fun aT I ay=>?_
 refine tr ?_;intros;refine cS (zaj ay) ?_;refine fv I F ?_ ?_<;>intro I _ F;refine bi I fun aU I az=>?_;refine tr ?_;intros;refine cS (zaj az) ?_;cases I;refine tt ?_;refine wn ad F fun F=>?_;exact bk aj ae ();cases I;refine tt ?_;refine wn ad F fun F=>?_;exact bk aj ae ();cases I;refine tt ?_;refine wn ad F fun F=>?_;exact bk aj ae ();cases I;refine tt ?_;exact xt ae aq ();cases I;refine tt ?_
 exact xt ae aq ();cases U;refine tt ?_;exact xt ho3 af3 ()
theorem zrp {l:xr4} {r:Int} (h:zfx l=some r):
  Pu Tryz.prog 78 [.agg (xsf l)] (.one (.int .i64 r)):=by
 have F:=trivial;have R:=trivial
 refine pA Tryz.func78 ?_;simp only[Tryz.f78];unfold zfx at h;refine tr ?_;intros;refine fi h F ?_ ?_<;>intro h _ F;cases h;exact fin;refine fi h F ?_ ?_<;>intro h _ F;cases h;exact fin;refine bi h fun aH h az=>?_;refine tt ?_
 refine lX az (fun|aj,_=>⟨[(1,.one (.ref 0 0 0 0)),(3,.one (.int .i64 (l.Names.length:Int))),(4,.one (.int .i64 (aj:Int)))],[.cells 0 2 [[.sl (l.Names.map eS),.sl (l.Below.map (eA2 eI))]]]⟩) (fun|(.inl a4),_=>⟨[],[]⟩|(.inr ()),_=>⟨[(1,.one (.ref 0 0 0 0)),(3,.one (.int .i64 (l.Names.length:Int)))],[.cells 0 2 [[.sl (l.Names.map eS),.sl (l.Below.map (eA2 eI))]]]⟩) (fun|(.inl _)=>none|(.inr _)=>some 0) ?_ ?_
 intro i3 b3 ay
 rcases aH with af|⟨⟩
 cases ay;obtain rfl:=Option.some.inj ay;obtain⟨⟩:=b3;dsimp only at h|-;refine bi h fun aI h aA=>?_;refine tt ?_
 refine lX aA (fun|ai,_=>⟨[(1,.one (.ref 0 0 0 0)),(3,.one (.int .i64 (l.Names.length:Int))),(5,.one (.int .i64 (ai:Int)))],[.cells 0 2 [[.sl (l.Names.map eS),.sl (l.Below.map (eA2 eI))]]]⟩) (fun|(.inl aP),_=>⟨[],[]⟩|(.inr ()),_=>⟨[],[.cells 0 2 [[.sl (l.Names.map eS),.sl (l.Below.map (eA2 eI))]]]⟩) (fun|(.inl _)=>none|(.inr _)=>some 2) ?_ ?_
 intro i10 aJ ak
 rcases aI with af|⟨⟩
 cases ak;obtain rfl:=Option.some.inj ak;obtain⟨⟩:=aJ;dsimp only at h|-;cases h;exact fin;intro aB a5 ai aK a6 U ab aC;obtain⟨⟩:=aK;dsimp only[zd6]at U|-;refine fl U F ?_ ?_<;>intro U _ F;refine bx U F fun aQ U aN F=>?_;refine tr ?_;intros;refine fi U F ?_ ?_<;>intro U _ F;cases U;obtain rfl:=sr ab
 try dsimp only at h
 cases h;exact fin;refine bi U fun aD U ao=>?_;refine tt ?_
 refine lX ao (fun|ae,_=>⟨[(1,.one (.ref 0 0 0 0)),(3,.one (.int .i64 (l.Names.length:Int))),(5,.one (.int .i64 (ai:Int))),(6,.one (.int .i64 (ae:Int)))],[.cells 0 2 [[.sl (l.Names.map eS),.sl (l.Below.map (eA2 eI))]]]⟩) (fun|(.inl aR),_=>⟨[],[]⟩|(.inr ()),_=>⟨[(1,.one (.ref 0 0 0 0)),(3,.one (.int .i64 (l.Names.length:Int))),(5,.one (.int .i64 (ai:Int)))],[.cells 0 2 [[.sl (l.Names.map eS),.sl (l.Below.map (eA2 eI))]]]⟩) (fun|(.inl _)=>none|(.inr _)=>some 4) ?_ ?_
 intro i14 aL al
 rcases aD with af|⟨⟩
 cases al;obtain rfl:=Option.some.inj al;obtain⟨⟩:=aL;dsimp only at U|-;cases U;refine tt ?_;refine wn ai F fun F=>?_;exact bk aC ab ();intro aE a7 ae aM a8 I ad an;obtain⟨⟩:=aM;dsimp only[zcv]at I|-;refine fl I F ?_ ?_<;>intro I _ F;refine bx I F fun aS I aO F=>?_;refine tr ?_;intros;refine fi I F ?_ ?_<;>intro I _ F;cases I;obtain rfl:=sr ad
 try dsimp only at U
 cases U;obtain rfl:=sr ab
 try dsimp only at h
 cases h;exact fin;refine bi I fun aT I aq=>?_;refine tr ?_;intros;refine cD (zaj aq) ?_;refine tr ?_;intros;refine fv I F ?_ ?_<;>intro I _ F;refine bi I fun aU I ar=>?_;refine tr ?_;intros;refine cD (zaj ar) ?_;refine tr ?_;intros;refine fv I F ?_ ?_<;>intro I _ F;cases I;obtain rfl:=sr ad
 try dsimp only at U
 cases U;obtain rfl:=sr ab
 try dsimp only at h
 cases h;exact fin;refine bi I fun aV I au=>?_;refine tr ?_;intros;refine cD (zjt au) ?_;refine tr ?_;intros;refine fi I F ?_ ?_<;>intro I _ F;cases I;obtain rfl:=sr ad
 try dsimp only at U
 cases U;obtain rfl:=sr ab
 try dsimp only at h
 cases h;exact fin;refine bi I fun aW I av=>?_;refine tr ?_;intros;refine cD (zmb av) ?_;refine tr ?_;intros;refine fi I F ?_ ?_<;>intro I _ F;cases I;obtain rfl:=sr ad
 try dsimp only at U
 cases U;obtain rfl:=sr ab
 try dsimp only at h
 cases h;exact fin;cases I;refine tt ?_;refine wn ae F fun F=>?_;exact bk an ad ();refine bi I fun aX I aw=>?_;refine tr ?_;intros;refine cD (zjt aw) ?_;refine tr ?_;intros;refine fi I F ?_ ?_<;>intro I _ F;cases I;obtain rfl:=sr ad
 try dsimp only at U
 cases U;obtain rfl:=sr ab
 try dsimp only at h
 cases h;exact fin;refine bi I fun aY I ax=>?_;refine tr ?_;intros;refine cD (zmb ax) ?_;refine tr ?_;intros;refine fi I F ?_ ?_<;>intro I _ F;cases I;obtain rfl:=sr ad
 try dsimp only at U
 cases U;obtain rfl:=sr ab
 try dsimp only at h
 cases h;exact fin;cases I;refine tt ?_;refine wn ae F fun F=>?_;exact bk an ad ();cases I;refine tt ?_;exact xt ad aE ();cases U;refine tt ?_;exact xt ab aB ();intro af3 m3 aj a3 o3 aa ho3 ih3;obtain⟨⟩:=a3;dsimp only[zd7]at aa|-;refine tr ?_;intros;refine fl aa F ?_ ?_<;>intro aa _ F;refine bx aa F fun a9 aa aZ F=>?_;refine bi aa fun ba aa aF=>?_;refine tr ?_;intros;refine cD (zby aF) ?_
 refine tr ?_;intros;refine fv aa F ?_ ?_<;>intro aa _ F;refine bi aa fun bb aa aG=>?_;refine tr ?_;intros;refine cD (zby aG) ?_;refine tr ?_;intros;refine fv aa F ?_ ?_<;>intro aa _ F;cases aa;refine tt ?_;refine wn aj F fun F=>?_;exact bk ih3 ho3 ();cases aa;obtain rfl:=sr ho3
 try dsimp only at h
 cases h;exact fin;cases aa;obtain rfl:=sr ho3
 try dsimp only at h
 cases h;exact fin;cases aa;refine tt ?_;exact xt ho3 af3 ()
theorem zba {p:xrw} {name:Str} {r:Int} (h:za5 p name=some r):
  Pu Tryz.prog 44 [.agg (xr5 p),.one (.str name)] (.one (.int .i64 r)):=by
 have F:=trivial;have R:=trivial
 refine pA Tryz.func44 ?_;simp only[Tryz.f44];unfold za5 at h;refine bi h fun ad h ab=>?_;refine tt ?_
 refine lX ab (fun|U,_=>⟨[(1,.one (.str name)),(2,.one (.ref 0 0 0 0)),(5,.one (.int .i64 (U:Int)))],[.cells 0 6 [[.sl (p.Lattice.Names.map eS),.sl (p.Lattice.Below.map (eA2 eI)),.sl (p.Sites.map xrz),.sl (p.Vars.map xr0),.sl (p.Blocks.map xr1),.sl (p.Tasks.map xr2)]]]⟩) (fun|(.inl ai),_=>⟨[],[]⟩|(.inr ()),_=>⟨[],[.cells 0 6 [[.sl (p.Lattice.Names.map eS),.sl (p.Lattice.Below.map (eA2 eI)),.sl (p.Sites.map xrz),.sl (p.Vars.map xr0),.sl (p.Blocks.map xr1),.sl (p.Tasks.map xr2)]]]⟩) (fun|(.inl _)=>none|(.inr _)=>some 0) ?_ ?_
 intro i3 b3 aa
 rcases ad with ae|⟨⟩
 cases aa;obtain rfl:=Option.some.inj aa;obtain⟨⟩:=b3;dsimp only at h|-;cases h;exact fin;intro af3 m3 U a3 o3 I ho3 ih3;obtain⟨⟩:=a3;dsimp only[zh2]at I|-;refine tr ?_;intros;refine fl I F ?_ ?_<;>intro I _ F;refine bx I F fun aj I af F=>?_;refine tr ?_;intros;refine fi I F ?_ ?_<;>intro I _ F;cases I;obtain rfl:=sr ho3
 try dsimp only at h
 cases h;exact fin;cases I;refine tt ?_;refine wn U F fun F=>?_;exact bk ih3 ho3 ();cases I;refine tt ?_;exact xt ho3 af3 ()
theorem zct {p:xrw} {name:Str} {r:Int} (h:zbw p name=some r):
  Pu Tryz.prog 45 [.agg (xr5 p),.one (.str name)] (.one (.int .i64 r)):=by
 have F:=trivial;have R:=trivial
 refine pA Tryz.func45 ?_;simp only[Tryz.f45];unfold zbw at h;refine bi h fun ad h ab=>?_;refine tt ?_
 refine lX ab (fun|U,_=>⟨[(1,.one (.str name)),(2,.one (.ref 0 0 0 0)),(5,.one (.int .i64 (U:Int)))],[.cells 0 6 [[.sl (p.Lattice.Names.map eS),.sl (p.Lattice.Below.map (eA2 eI)),.sl (p.Sites.map xrz),.sl (p.Vars.map xr0),.sl (p.Blocks.map xr1),.sl (p.Tasks.map xr2)]]]⟩) (fun|(.inl ai),_=>⟨[],[]⟩|(.inr ()),_=>⟨[],[.cells 0 6 [[.sl (p.Lattice.Names.map eS),.sl (p.Lattice.Below.map (eA2 eI)),.sl (p.Sites.map xrz),.sl (p.Vars.map xr0),.sl (p.Blocks.map xr1),.sl (p.Tasks.map xr2)]]]⟩) (fun|(.inl _)=>none|(.inr _)=>some 0) ?_ ?_
 intro i3 b3 aa
 rcases ad with ae|⟨⟩
 cases aa;obtain rfl:=Option.some.inj aa;obtain⟨⟩:=b3;dsimp only at h|-;cases h;exact fin;intro af3 m3 U a3 o3 I ho3 ih3;obtain⟨⟩:=a3;dsimp only[zgb]at I|-;refine tr ?_;intros;refine fl I F ?_ ?_<;>intro I _ F;refine bx I F fun aj I af F=>?_;refine tr ?_;intros;refine fi I F ?_ ?_<;>intro I _ F;cases I;obtain rfl:=sr ho3
 try dsimp only at h
 cases h;exact fin;cases I;refine tt ?_;refine wn U F fun F=>?_;exact bk ih3 ho3 ();cases I;refine tt ?_;exact xt ho3 af3 ()
theorem zhb {p:xrw} {name:Str} {r:Int} (h:zdj p name=some r):
  Pu Tryz.prog 47 [.agg (xr5 p),.one (.str name)] (.one (.int .i64 r)):=by
 have F:=trivial;have R:=trivial
 refine pA Tryz.func47 ?_;simp only[Tryz.f47];unfold zdj at h;refine bi h fun ad h ab=>?_;refine tt ?_
 refine lX ab (fun|U,_=>⟨[(1,.one (.str name)),(2,.one (.ref 0 0 0 0)),(5,.one (.int .i64 (U:Int)))],[.cells 0 6 [[.sl (p.Lattice.Names.map eS),.sl (p.Lattice.Below.map (eA2 eI)),.sl (p.Sites.map xrz),.sl (p.Vars.map xr0),.sl (p.Blocks.map xr1),.sl (p.Tasks.map xr2)]]]⟩) (fun|(.inl ai),_=>⟨[],[]⟩|(.inr ()),_=>⟨[],[.cells 0 6 [[.sl (p.Lattice.Names.map eS),.sl (p.Lattice.Below.map (eA2 eI)),.sl (p.Sites.map xrz),.sl (p.Vars.map xr0),.sl (p.Blocks.map xr1),.sl (p.Tasks.map xr2)]]]⟩) (fun|(.inl _)=>none|(.inr _)=>some 0) ?_ ?_
 intro i3 b3 aa
 rcases ad with ae|⟨⟩
 cases aa;obtain rfl:=Option.some.inj aa;obtain⟨⟩:=b3;dsimp only at h|-;cases h;exact fin;intro af3 m3 U a3 o3 I ho3 ih3;obtain⟨⟩:=a3;dsimp only[zhc]at I|-;refine tr ?_;intros;refine fl I F ?_ ?_<;>intro I _ F;refine bx I F fun aj I af F=>?_;refine tr ?_;intros;refine fi I F ?_ ?_<;>intro I _ F;cases I;obtain rfl:=sr ho3
 try dsimp only at h
 cases h;exact fin;cases I;refine tt ?_;refine wn U F fun F=>?_;exact bk ih3 ho3 ();cases I;refine tt ?_;exact xt ho3 af3 ()
theorem zp3 {aa:xrw->xrx->Option Bool} {U:xrw->(List xrx)->Option Bool} {p:xrw} {e:xrx} {r:Bool}
  (ab:∀(x0:xrw) (x1:xrx) (r:Bool),aa x0 x1=some r->Pu Tryz.prog 150 [.agg (xr5 x0),.agg (xr3 x1)] (.one (.bool r)))
  (I:∀(x0:xrw) (x1:List xrx) (r:Bool),U x0 x1=some r->Pu Tryz.prog 151 [.agg (xr5 x0),.one (.sl (x1.map xr3))] (.one (.bool r))) (h:ze0 aa U p e=some r):
  Pu Tryz.prog 150 [.agg (xr5 p),.agg (xr3 e)] (.one (.bool r)):=by
 have F:=trivial;have R:=trivial
 refine pA Tryz.func150 ?_;simp only[Tryz.f150];unfold ze0 at h;refine tt ?_;refine fi h F ?_ ?_<;>intro h _ F;refine bi h fun aq h ad=>?_;refine tr ?_;intros;refine cS (zba ad) ?_;refine fi h F ?_ ?_<;>intro h _ F;cases h;exact fin;refine bi h fun ar h ae=>?_;refine tr ?_;intros;refine cS (I _ _ _ ae) ?_;cases h;exact fin;refine fi h F ?_ ?_<;>intro h _ F;refine bi h fun au h af=>?_
 refine tr ?_;intros;refine cS (zba af) ?_;refine fi h F ?_ ?_<;>intro h _ F;cases h;exact fin;refine bi h fun av h ai=>?_;refine tr ?_;intros;refine cS (I _ _ _ ai) ?_;cases h;exact fin;refine fi h F ?_ ?_<;>intro h _ F;refine bi h fun aw h aj=>?_;refine tr ?_;intros;refine cS (zct aj) ?_;refine fi h F ?_ ?_<;>intro h _ F;cases h;exact fin;refine bi h fun ax h ak=>?_;refine tr ?_;intros
 refine cS (I _ _ _ ak) ?_;cases h;exact fin;refine fi h F ?_ ?_<;>intro h _ F;refine bi h fun ay h al=>?_;refine tr ?_;intros;refine cS (zhb al) ?_;refine fi h F ?_ ?_<;>intro h _ F;cases h;exact fin;refine bi h fun az h an=>?_;refine tr ?_;intros;refine cS (I _ _ _ an) ?_;cases h;exact fin;refine bi h fun aA h ao=>?_;refine tr ?_;intros;refine cS (I _ _ _ ao) ?_;cases h;exact fin
theorem zpa {U:xrw->xrx->Option Bool} {I:xrw->(List xrx)->Option Bool} {p:xrw} {l:List xrx} {r:Bool}
  (aa:∀(x0:xrw) (x1:xrx) (r:Bool),U x0 x1=some r->Pu Tryz.prog 150 [.agg (xr5 x0),.agg (xr3 x1)] (.one (.bool r)))
  (ad:∀(x0:xrw) (x1:List xrx) (r:Bool),I x0 x1=some r->Pu Tryz.prog 151 [.agg (xr5 x0),.one (.sl (x1.map xr3))] (.one (.bool r))) (h:zel U I p l=some r):
  Pu Tryz.prog 151 [.agg (xr5 p),.one (.sl (l.map xr3))] (.one (.bool r)):=by
 have F:=trivial;have R:=trivial
 refine pA Tryz.func151 ?_;simp only[Tryz.f151];unfold zel at h;refine bi h fun ak h ai=>?_;refine tt ?_
 refine lX ai (fun|ae,_=>⟨[(1,.one (.sl (l.map xr3))),(2,.one (.ref 0 0 0 0)),(5,.one (.int .i64 (ae:Int)))],[.cells 0 6 [[.sl (p.Lattice.Names.map eS),.sl (p.Lattice.Below.map (eA2 eI)),.sl (p.Sites.map xrz),.sl (p.Vars.map xr0),.sl (p.Blocks.map xr1),.sl (p.Tasks.map xr2)]]]⟩) (fun|(.inl ao),_=>⟨[],[]⟩|(.inr ()),_=>⟨[],[.cells 0 6 [[.sl (p.Lattice.Names.map eS),.sl (p.Lattice.Below.map (eA2 eI)),.sl (p.Sites.map xrz),.sl (p.Vars.map xr0),.sl (p.Blocks.map xr1),.sl (p.Tasks.map xr2)]]]⟩) (fun|(.inl _)=>none|(.inr _)=>some 0) ?_ ?_
 intro i3 b3 af
 rcases ak with al|⟨⟩
 cases af;obtain rfl:=Option.some.inj af;obtain⟨⟩:=b3;dsimp only at h|-;cases h;exact fin;intro af3 m3 ae a3 o3 ab ho3 ih3;obtain⟨⟩:=a3;dsimp only[zf5]at ab|-;refine tr ?_;intros;refine fl ab F ?_ ?_<;>intro ab _ F;refine bx ab F fun aq ab an F=>?_;refine bi ab fun ar ab aj=>?_;refine tr ?_;intros;refine cD (aa _ _ _ aj) ?_;refine tr ?_;intros;refine fv ab F ?_ ?_<;>intro ab _ F
 cases ab;refine tt ?_;refine wn ae F fun F=>?_;exact bk ih3 ho3 ();cases ab;obtain rfl:=sr ho3
 try dsimp only at h
 cases h;exact fin;cases ab;refine tt ?_;exact xt ho3 af3 ()
theorem zla (n:Nat):(∀(I:xrw) (U:xrx) (r:Bool),(zar n).1 I U=some r->Pu Tryz.prog 150 [.agg (xr5 I),.agg (xr3 U)] (.one (.bool r)))/\(∀(I:xrw) (U:List xrx) (r:Bool),(zar n).2 I U=some r->Pu Tryz.prog 151 [.agg (xr5 I),.one (.sl (U.map xr3))] (.one (.bool r))):=by
 induction n with
 |zero=>exact⟨fun _ _ r h=>(by cases h),fun _ _ r h=>(by cases h)⟩
 |succ n ih=>
  obtain⟨aa,ih1⟩:=ih;exact⟨fun _ _ r h=>zp3 aa ih1 h,fun _ _ r h=>zpa aa ih1 h⟩
theorem zc7 {p:xrw} {e:xrx} {r:Bool} (h:zcl p e=some r):Pu Tryz.prog 150 [.agg (xr5 p),.agg (xr3 e)] (.one (.bool r)):=(zla 1000000).1 _ _ _ h
theorem zix {p:xrw} {l:List xrx} {r:Bool} (h:zfn p l=some r):Pu Tryz.prog 151 [.agg (xr5 p),.one (.sl (l.map xr3))] (.one (.bool r)):=(zla 1000000).2 _ _ _ h
end Go.Lz

end
