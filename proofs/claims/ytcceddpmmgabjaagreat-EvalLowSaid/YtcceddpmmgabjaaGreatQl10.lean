/- A term of a label at or below another one has the same value whatever stands in what is not. Over the model of the program as it was translated; no condition. The parts of a proof: ST, TL6. -/
import Derived.Test.YtcceddpmmgabjaaGreatQl9
import Derived.Test.YtcceddpmmgabjaaGreatRows
set_option linter.unusedVariables false
set_option linter.unusedSimpArgs false
open Go.Proofs.Tryz
section
namespace Go.Lz
open Go.Proofs
def okI (k:IntKind) (n:Int):Prop:=k.min<=n/\n<=k.max
def okS (s:Str):Prop:=s.length<=lim
def okL {α:Type} (p:α->Prop) (xs:List α):Prop:=xs.length<=lim/\∀x∈xs,p x
theorem zkl {P:Program} {e:TypeId} {α:Type} {f:α->List C} {ok:α->Prop} (h:∀cs,Ty P e cs->∃x,cs=f x/\ok x):∀rows:List (List C),(∀r∈rows,Ty P e r)->∃xs:List α,rows=xs.map f/\∀x∈xs,ok x
 |[],_=>⟨[],rfl,by simp⟩
 |r::rows,hr=>by
  obtain⟨x,U,o1⟩:=h r (hr r (by simp));obtain⟨xs,e2,o2⟩:=zkl h rows (fun r' I=>hr r' (by simp[I]))
  exact⟨x::xs,by rw[U,e2];rfl,fun y hy=>by rcases Wax.1 hy with rfl|hy;exact o1;exact o2 y hy⟩
theorem zwg {P:Program} {e:TypeId} {α:Type} {f:α->List C} {ok:α->Prop}:∀rows:List (List C),(∀r∈rows,Ty P e r)->(∀r∈rows,Ty P e r->∃x,r=f x/\ok x)->∃xs:List α,rows=xs.map f/\∀x∈xs,ok x
 |[],_,_=>⟨[],rfl,by simp⟩
 |r::rows,hr,h=>by
  obtain⟨x,e1,o1⟩:=h r (by simp) (hr r (by simp));obtain⟨xs,e2,o2⟩:=zwg rows (fun U I=>hr U (by simp[I])) (fun U I=>h U (by simp[I]))
  exact⟨x::xs,by rw[e1,e2];rfl,fun y hy=>by rcases Wax.1 hy with rfl|hy;exact o1;exact o2 y hy⟩
def okA2 {α:Type} (p:α->Prop) (x:A2 α):Prop:=p x.a0/\p x.a1
def okA4 {α:Type} (p:α->Prop) (x:A4 α):Prop:=p x.a0/\p x.a1/\p x.a2/\p x.a3
set_option maxRecDepth 100000 in
theorem ti_9 (cs:List C) (h:Ty prog 9 cs):∃x:Str,cs=eS x/\okS x:=by
 obtain⟨n,rfl,hn⟩:=h.str_inv Tryz.underlying9;exact⟨n,rfl,hn⟩
set_option maxRecDepth 100000 in
theorem yo4 (cs:List C) (h:Ty prog 22 cs):∃x:List Str,cs=(eL eS) x/\(okL okS) x:=by
 obtain⟨rows,rfl,hl,hr⟩:=h.slice_inv Tryz.underlying22;obtain⟨xs,rfl,ho⟩:=zkl ti_9 rows hr;exact⟨xs,rfl,by simpa using hl,ho⟩
set_option maxRecDepth 100000 in
theorem ti_3 (cs:List C) (h:Ty prog 3 cs):∃x:Int,cs=eI x/\(okI .i64) x:=by
 obtain⟨n,rfl,hn⟩:=h.int_inv Tryz.underlying3;exact⟨n,rfl,hn⟩
set_option maxRecDepth 100000 in
theorem yke (cs:List C) (h:Ty prog 103 cs):∃x:A2 Int,cs=(eA2 eI) x/\(okA2 (okI .i64)) x:=by
 obtain⟨hl,hf⟩:=h.array_inv Tryz.underlying103
 have e_:prog.cellsOf 103=2:=by kernel_rfl
 rw[e_]at hl
 have e_3:prog.cellsOf 3=1:=by kernel_rfl
 obtain⟨c0,c1,rfl⟩:∃c0 c1,cs=[c0,c1]:=by
  match cs,hl with
  |[c0,c1],_=>exact⟨c0,c1,rfl⟩
 have h0:Ty prog 3 [c0]:=by
  have:=hf 0 (by decide)
  simp only[e_3]at this;exact this
 obtain⟨x0,q0,o0⟩:=ti_3 _ h0
 have h1:Ty prog 3 [c1]:=by
  have:=hf 1 (by decide)
  simp only[e_3]at this;exact this
 obtain⟨x1,q1,o1⟩:=ti_3 _ h1;refine⟨⟨x0,x1⟩,?_,⟨o0,o1⟩⟩
 have hx:(eA2 eI) ⟨x0,x1⟩=eI x0++eI x1:=by simp[go_sem]
 rw[hx,<-q0,<-q1];rfl
set_option maxRecDepth 100000 in
theorem yo3 (cs:List C) (h:Ty prog 23 cs):∃x:List (A2 Int),cs=(eL (eA2 eI)) x/\(okL (okA2 (okI .i64))) x:=by
 obtain⟨rows,rfl,hl,hr⟩:=h.slice_inv Tryz.underlying23;obtain⟨xs,rfl,ho⟩:=zkl yke rows hr;exact⟨xs,rfl,by simpa using hl,ho⟩
def xtw (x:xsn):Prop:=(okL okS) x.Names/\(okL (okA2 (okI .i64))) x.Below
set_option maxRecDepth 100000 in
theorem yo2 (cs:List C) (h:Ty prog 25 cs):∃x:xsn,cs=xs3 x/\xtw x:=by
 obtain⟨hl,hf⟩:=h.struct_inv Tryz.underlying25
 have e_:prog.cellsOf 25=2:=by kernel_rfl
 rw[e_]at hl
 have e_22:prog.cellsOf 22=1:=by kernel_rfl
 have e_23:prog.cellsOf 23=1:=by kernel_rfl
 obtain⟨c0,c1,rfl⟩:∃c0 c1,cs=[c0,c1]:=by
  match cs,hl with
  |[c0,c1],_=>exact⟨c0,c1,rfl⟩
 have h0:Ty prog 22 [c0]:=by
  have:=hf _ (Wad (i:=0) rfl)
  simp only[e_22]at this;exact this
 obtain⟨x0,q0,o0⟩:=yo4 _ h0
 have h1:Ty prog 23 [c1]:=by
  have:=hf _ (Wad (i:=1) rfl)
  simp only[e_23]at this;exact this
 obtain⟨x1,q1,o1⟩:=yo3 _ h1;refine⟨⟨x0,x1⟩,?_,⟨o0,o1⟩⟩
 have hx:xs3 ⟨x0,x1⟩=(eL eS) x0++(eL (eA2 eI)) x1:=by simp[go_sem]
 rw[hx,<-q0,<-q1];rfl
def xtm (x:xsy):Prop:=okS x.Name/\(okI .i64) x.From/\(okI .i64) x.To
set_option maxRecDepth 100000 in
theorem ykc (cs:List C) (h:Ty prog 129 cs):∃x:xsy,cs=xsr x/\xtm x:=by
 obtain⟨hl,hf⟩:=h.struct_inv Tryz.underlying129
 have e_:prog.cellsOf 129=3:=by kernel_rfl
 rw[e_]at hl
 have e_3:prog.cellsOf 3=1:=by kernel_rfl
 have e_9:prog.cellsOf 9=1:=by kernel_rfl
 obtain⟨c0,c1,c2,rfl⟩:∃c0 c1 c2,cs=[c0,c1,c2]:=by
  match cs,hl with
  |[c0,c1,c2],_=>exact⟨c0,c1,c2,rfl⟩
 have h0:Ty prog 9 [c0]:=by
  have:=hf _ (Wad (i:=0) rfl)
  simp only[e_9]at this;exact this
 obtain⟨x0,q0,o0⟩:=ti_9 _ h0
 have h1:Ty prog 3 [c1]:=by
  have:=hf _ (Wad (i:=1) rfl)
  simp only[e_3]at this;exact this
 obtain⟨x1,q1,o1⟩:=ti_3 _ h1
 have h2:Ty prog 3 [c2]:=by
  have:=hf _ (Wad (i:=2) rfl)
  simp only[e_3]at this;exact this
 obtain⟨x2,q2,o2⟩:=ti_3 _ h2;refine⟨⟨x0,x1,x2⟩,?_,⟨o0,o1,o2⟩⟩
 have hx:xsr ⟨x0,x1,x2⟩=eS x0++eI x1++eI x2:=by simp[go_sem]
 rw[hx,<-q0,<-q1,<-q2];rfl
set_option maxRecDepth 100000 in
theorem yo1 (cs:List C) (h:Ty prog 26 cs):∃x:List xsy,cs=(eL xsr) x/\(okL xtm) x:=by
 obtain⟨rows,rfl,hl,hr⟩:=h.slice_inv Tryz.underlying26;obtain⟨xs,rfl,ho⟩:=zkl ykc rows hr;exact⟨xs,rfl,by simpa using hl,ho⟩
def xtx (x:xsz):Prop:=(okI .i64) x.Kind/\(okI .i64) x.Low/\(okI .i64) x.Len
set_option maxRecDepth 100000 in
theorem yoq (cs:List C) (h:Ty prog 64 cs):∃x:xsz,cs=xs7 x/\xtx x:=by
 obtain⟨hl,hf⟩:=h.struct_inv Tryz.underlying64
 have e_:prog.cellsOf 64=3:=by kernel_rfl
 rw[e_]at hl
 have e_3:prog.cellsOf 3=1:=by kernel_rfl
 obtain⟨c0,c1,c2,rfl⟩:∃c0 c1 c2,cs=[c0,c1,c2]:=by
  match cs,hl with
  |[c0,c1,c2],_=>exact⟨c0,c1,c2,rfl⟩
 have h0:Ty prog 3 [c0]:=by
  have:=hf _ (Wad (i:=0) rfl)
  simp only[e_3]at this;exact this
 obtain⟨x0,q0,o0⟩:=ti_3 _ h0
 have h1:Ty prog 3 [c1]:=by
  have:=hf _ (Wad (i:=1) rfl)
  simp only[e_3]at this;exact this
 obtain⟨x1,q1,o1⟩:=ti_3 _ h1
 have h2:Ty prog 3 [c2]:=by
  have:=hf _ (Wad (i:=2) rfl)
  simp only[e_3]at this;exact this
 obtain⟨x2,q2,o2⟩:=ti_3 _ h2;refine⟨⟨x0,x1,x2⟩,?_,⟨o0,o1,o2⟩⟩
 have hx:xs7 ⟨x0,x1,x2⟩=eI x0++eI x1++eI x2:=by simp[go_sem]
 rw[hx,<-q0,<-q1,<-q2];rfl
def xtn (x:xsq):Prop:=okS x.Name/\xtx x.Type_/\(okI .i64) x.Mode/\(okI .i64) x.Label/\(okI .i64) x.Safe
set_option maxRecDepth 100000 in
theorem yop (cs:List C) (h:Ty prog 66 cs):∃x:xsq,cs=xst x/\xtn x:=by
 obtain⟨hl,hf⟩:=h.struct_inv Tryz.underlying66
 have e_:prog.cellsOf 66=7:=by kernel_rfl
 rw[e_]at hl
 have e_3:prog.cellsOf 3=1:=by kernel_rfl
 have e_9:prog.cellsOf 9=1:=by kernel_rfl
 have e_64:prog.cellsOf 64=3:=by kernel_rfl
 obtain⟨c0,c1,c2,c3,c4,c5,c6,rfl⟩:∃c0 c1 c2 c3 c4 c5 c6,cs=[c0,c1,c2,c3,c4,c5,c6]:=by
  match cs,hl with
  |[c0,c1,c2,c3,c4,c5,c6],_=>exact⟨c0,c1,c2,c3,c4,c5,c6,rfl⟩
 have h0:Ty prog 9 [c0]:=by
  have:=hf _ (Wad (i:=0) rfl)
  simp only[e_9]at this;exact this
 obtain⟨x0,q0,o0⟩:=ti_9 _ h0
 have h1:Ty prog 64 [c1,c2,c3]:=by
  have:=hf _ (Wad (i:=1) rfl)
  simp only[e_64]at this;exact this
 obtain⟨x1,q1,o1⟩:=yoq _ h1
 have h2:Ty prog 3 [c4]:=by
  have:=hf _ (Wad (i:=2) rfl)
  simp only[e_3]at this;exact this
 obtain⟨x2,q2,o2⟩:=ti_3 _ h2
 have h3:Ty prog 3 [c5]:=by
  have:=hf _ (Wad (i:=3) rfl)
  simp only[e_3]at this;exact this
 obtain⟨x3,q3,o3⟩:=ti_3 _ h3
 have h4:Ty prog 3 [c6]:=by
  have:=hf _ (Wad (i:=4) rfl)
  simp only[e_3]at this;exact this
 obtain⟨x4,q4,o4⟩:=ti_3 _ h4;refine⟨⟨x0,x1,x2,x3,x4⟩,?_,⟨o0,o1,o2,o3,o4⟩⟩
 have hx:xst ⟨x0,x1,x2,x3,x4⟩=eS x0++xs7 x1++eI x2++eI x3++eI x4:=by simp[go_sem]
 rw[hx,<-q0,<-q1,<-q2,<-q3,<-q4];rfl
set_option maxRecDepth 100000 in
theorem yo0 (cs:List C) (h:Ty prog 27 cs):∃x:List xsq,cs=(eL xst) x/\(okL xtn) x:=by
 obtain⟨rows,rfl,hl,hr⟩:=h.slice_inv Tryz.underlying27;obtain⟨xs,rfl,ho⟩:=zkl yop rows hr;exact⟨xs,rfl,by simpa using hl,ho⟩
def xto (x:xsw):Prop:=okS x.Name/\okS x.Kind/\(okI .i64) x.Label
set_option maxRecDepth 100000 in
theorem yoo (cs:List C) (h:Ty prog 69 cs):∃x:xsw,cs=xsu x/\xto x:=by
 obtain⟨hl,hf⟩:=h.struct_inv Tryz.underlying69
 have e_:prog.cellsOf 69=3:=by kernel_rfl
 rw[e_]at hl
 have e_3:prog.cellsOf 3=1:=by kernel_rfl
 have e_9:prog.cellsOf 9=1:=by kernel_rfl
 obtain⟨c0,c1,c2,rfl⟩:∃c0 c1 c2,cs=[c0,c1,c2]:=by
  match cs,hl with
  |[c0,c1,c2],_=>exact⟨c0,c1,c2,rfl⟩
 have h0:Ty prog 9 [c0]:=by
  have:=hf _ (Wad (i:=0) rfl)
  simp only[e_9]at this;exact this
 obtain⟨x0,q0,o0⟩:=ti_9 _ h0
 have h1:Ty prog 9 [c1]:=by
  have:=hf _ (Wad (i:=1) rfl)
  simp only[e_9]at this;exact this
 obtain⟨x1,q1,o1⟩:=ti_9 _ h1
 have h2:Ty prog 3 [c2]:=by
  have:=hf _ (Wad (i:=2) rfl)
  simp only[e_3]at this;exact this
 obtain⟨x2,q2,o2⟩:=ti_3 _ h2;refine⟨⟨x0,x1,x2⟩,?_,⟨o0,o1,o2⟩⟩
 have hx:xsu ⟨x0,x1,x2⟩=eS x0++eS x1++eI x2:=by simp[go_sem]
 rw[hx,<-q0,<-q1,<-q2];rfl
set_option maxRecDepth 100000 in
theorem yoz (cs:List C) (h:Ty prog 28 cs):∃x:List xsw,cs=(eL xsu) x/\(okL xto) x:=by
 obtain⟨rows,rfl,hl,hr⟩:=h.slice_inv Tryz.underlying28;obtain⟨xs,rfl,ho⟩:=zkl yoo rows hr;exact⟨xs,rfl,by simpa using hl,ho⟩
set_option maxRecDepth 100000 in
theorem ycm (cs:List C) (h:Ty prog 36 cs):∃x:List Int,cs=(eL eI) x/\(okL (okI .i64)) x:=by
 obtain⟨rows,rfl,hl,hr⟩:=h.slice_inv Tryz.underlying36;obtain⟨xs,rfl,ho⟩:=zkl ti_3 rows hr;exact⟨xs,rfl,by simpa using hl,ho⟩
inductive xs5:xsk->Prop
 |mk {x:xsk} (h:(okI .i64) x.Op/\(okI .i64) x.N/\(okI .i64) x.Kind/\okS x.Name/\x.Args.length<=lim) (h0:∀y∈x.Args,xs5 y):xs5 x
theorem xs5.all {x:xsk} (h:xs5 x):(okI .i64) x.Op/\(okI .i64) x.N/\(okI .i64) x.Kind/\okS x.Name/\(okL xs5) x.Args:=by
 cases h with
 |mk h h0=>obtain⟨a0,a1,a2,a3,I⟩:=h;exact⟨a0,a1,a2,a3,⟨I,h0⟩⟩
set_option maxRecDepth 100000 in
theorem yka:∀(n:Nat) (cs:List C),SizeOf.sizeOf cs<n->Ty prog 42 cs->∃x:xsk,cs=xsm x/\xs5 x
 |0,cs,hs,h=>by omega
 |n+1,cs,hs,h=>by
  obtain⟨hl,hf⟩:=h.struct_inv Tryz.underlying42
  have e_:prog.cellsOf 42=5:=by kernel_rfl
  rw[e_]at hl
  have e_3:prog.cellsOf 3=1:=by kernel_rfl
  have e_9:prog.cellsOf 9=1:=by kernel_rfl
  have e_40:prog.cellsOf 40=1:=by kernel_rfl
  obtain⟨c0,c1,c2,c3,c4,rfl⟩:∃c0 c1 c2 c3 c4,cs=[c0,c1,c2,c3,c4]:=by
   match cs,hl with
   |[c0,c1,c2,c3,c4],_=>exact⟨c0,c1,c2,c3,c4,rfl⟩
  have h0:Ty prog 3 [c0]:=by
   have:=hf _ (Wad (i:=0) rfl)
   simp only[e_3]at this;exact this
  obtain⟨x0,q0,o0⟩:=ti_3 _ h0
  have h1:Ty prog 3 [c1]:=by
   have:=hf _ (Wad (i:=1) rfl)
   simp only[e_3]at this;exact this
  obtain⟨x1,q1,o1⟩:=ti_3 _ h1
  have h2:Ty prog 3 [c2]:=by
   have:=hf _ (Wad (i:=2) rfl)
   simp only[e_3]at this;exact this
  obtain⟨x2,q2,o2⟩:=ti_3 _ h2
  have h3:Ty prog 9 [c3]:=by
   have:=hf _ (Wad (i:=3) rfl)
   simp only[e_9]at this;exact this
  obtain⟨x3,q3,o3⟩:=ti_9 _ h3
  have h4:Ty prog 40 [c4]:=by
   have:=hf _ (Wad (i:=4) rfl)
   simp only[e_40]at this;exact this
  obtain⟨rows4,w4,l4,r4⟩:=h4.slice_inv Tryz.underlying40;cases w4;obtain⟨x4,q4,o4⟩:=zwg rows4 r4 (fun r hr hy=>yka n r (by have:=List.sizeOf_lt_of_mem hr;simp at hs;omega) hy);subst q4;refine⟨⟨x0,x1,x2,x3,x4⟩,?_,.mk ⟨o0,o1,o2,o3,by simpa using l4⟩ o4⟩
  have hx:xsm ⟨x0,x1,x2,x3,x4⟩=eI x0++eI x1++eI x2++eS x3++[.sl (x4.map xsm)]:=by simp[go_sem]
  rw[hx,<-q0,<-q1,<-q2,<-q3];rfl
theorem ycl (cs:List C) (h:Ty prog 42 cs):∃x:xsk,cs=xsm x/\xs5 x:=yka _ cs (Wbt _) h
theorem yog {X:V} (h:TyV prog 42 X):∃x:xsk,X=.agg (xsm x)/\xs5 x:=by
 obtain⟨cs,rfl,h2⟩:=h.agg_inv (by simp[zqx,Tryz.underlying42]);obtain⟨x,rfl,o⟩:=ycl _ h2;exact⟨x,rfl,o⟩
set_option maxRecDepth 100000 in
theorem yos (cs:List C) (h:Ty prog 40 cs):∃x:List xsk,cs=(eL xsm) x/\(okL xs5) x:=by
 obtain⟨rows,rfl,hl,hr⟩:=h.slice_inv Tryz.underlying40;obtain⟨xs,rfl,ho⟩:=zkl ycl rows hr;exact⟨xs,rfl,by simpa using hl,ho⟩
inductive xs8:xsl->Prop
 |mk {x:xsl} (h:(okI .i64) x.Kind/\okS x.Name/\xs5 x.Target/\xs5 x.Value/\(okL xs5) x.Args/\x.Body.length<=lim/\x.Else.length<=lim) (h0:∀y∈x.Body,xs8 y) (h1:∀y∈x.Else,xs8 y):xs8 x
theorem xs8.all {x:xsl} (h:xs8 x):(okI .i64) x.Kind/\okS x.Name/\xs5 x.Target/\xs5 x.Value/\(okL xs5) x.Args/\(okL xs8) x.Body/\(okL xs8) x.Else:=by
 cases h with
 |mk h h0 h1=>obtain⟨a0,a1,a2,a3,I,U,b1⟩:=h;exact⟨a0,a1,a2,a3,I,⟨U,h0⟩,⟨b1,h1⟩⟩
set_option maxRecDepth 100000 in
theorem ygf:∀(n:Nat) (cs:List C),SizeOf.sizeOf cs<n->Ty prog 76 cs->∃x:xsl,cs=xsp x/\xs8 x
 |0,cs,hs,h=>by omega
 |n+1,cs,hs,h=>by
  obtain⟨hl,hf⟩:=h.struct_inv Tryz.underlying76
  have e_:prog.cellsOf 76=15:=by kernel_rfl
  rw[e_]at hl
  have e_3:prog.cellsOf 3=1:=by kernel_rfl
  have e_9:prog.cellsOf 9=1:=by kernel_rfl
  have e_40:prog.cellsOf 40=1:=by kernel_rfl
  have e_42:prog.cellsOf 42=5:=by kernel_rfl
  have e_74:prog.cellsOf 74=1:=by kernel_rfl
  obtain⟨c0,c1,c2,c3,c4,c5,c6,c7,c8,c9,c10,c11,c12,c13,c14,rfl⟩:∃c0 c1 c2 c3 c4 c5 c6 c7 c8 c9 c10 c11 c12 c13 c14,cs=[c0,c1,c2,c3,c4,c5,c6,c7,c8,c9,c10,c11,c12,c13,c14]:=by
   match cs,hl with
   |[c0,c1,c2,c3,c4,c5,c6,c7,c8,c9,c10,c11,c12,c13,c14],_=>exact⟨c0,c1,c2,c3,c4,c5,c6,c7,c8,c9,c10,c11,c12,c13,c14,rfl⟩
  have h0:Ty prog 3 [c0]:=by
   have:=hf _ (Wad (i:=0) rfl)
   simp only[e_3]at this;exact this
  obtain⟨x0,q0,o0⟩:=ti_3 _ h0
  have h1:Ty prog 9 [c1]:=by
   have:=hf _ (Wad (i:=1) rfl)
   simp only[e_9]at this;exact this
  obtain⟨x1,q1,o1⟩:=ti_9 _ h1
  have h2:Ty prog 42 [c2,c3,c4,c5,c6]:=by
   have:=hf _ (Wad (i:=2) rfl)
   simp only[e_42]at this;exact this
  obtain⟨x2,q2,o2⟩:=ycl _ h2
  have h3:Ty prog 42 [c7,c8,c9,c10,c11]:=by
   have:=hf _ (Wad (i:=3) rfl)
   simp only[e_42]at this;exact this
  obtain⟨x3,q3,o3⟩:=ycl _ h3
  have h4:Ty prog 40 [c12]:=by
   have:=hf _ (Wad (i:=4) rfl)
   simp only[e_40]at this;exact this
  obtain⟨x4,q4,o4⟩:=yos _ h4
  have h5:Ty prog 74 [c13]:=by
   have:=hf _ (Wad (i:=5) rfl)
   simp only[e_74]at this;exact this
  obtain⟨rows5,w5,l5,r5⟩:=h5.slice_inv Tryz.underlying74;cases w5
  have h6:Ty prog 74 [c14]:=by
   have:=hf _ (Wad (i:=6) rfl)
   simp only[e_74]at this;exact this
  obtain⟨rows6,w6,l6,r6⟩:=h6.slice_inv Tryz.underlying74;cases w6;obtain⟨x5,q5,o5⟩:=zwg rows5 r5 (fun r hr hy=>ygf n r (by have:=List.sizeOf_lt_of_mem hr;simp at hs;omega) hy);obtain⟨x6,q6,o6⟩:=zwg rows6 r6 (fun r hr hy=>ygf n r (by have:=List.sizeOf_lt_of_mem hr;simp at hs;omega) hy);subst q5 q6;refine⟨⟨x0,x1,x2,x3,x4,x5,x6⟩,?_,.mk ⟨o0,o1,o2,o3,o4,by simpa using l5,by simpa using l6⟩ o5 o6⟩
  have hx:xsp ⟨x0,x1,x2,x3,x4,x5,x6⟩=eI x0++eS x1++xsm x2++xsm x3++(eL xsm) x4++[.sl (x5.map xsp)]++[.sl (x6.map xsp)]:=by simp[go_sem]
  rw[hx,<-q0,<-q1,<-q2,<-q3,<-q4];rfl
theorem yol (cs:List C) (h:Ty prog 76 cs):∃x:xsl,cs=xsp x/\xs8 x:=ygf _ cs (Wbt _) h
set_option maxRecDepth 100000 in
theorem yom (cs:List C) (h:Ty prog 74 cs):∃x:List xsl,cs=(eL xsp) x/\(okL xs8) x:=by
 obtain⟨rows,rfl,hl,hr⟩:=h.slice_inv Tryz.underlying74;obtain⟨xs,rfl,ho⟩:=zkl yol rows hr;exact⟨xs,rfl,by simpa using hl,ho⟩
def xtp (x:xs2):Prop:=(okI .i64) x.Every/\(okI .i64) x.Priority/\(okL (okI .i64)) x.Budget/\(okL xs8) x.Body
set_option maxRecDepth 100000 in
theorem yok (cs:List C) (h:Ty prog 78 cs):∃x:xs2,cs=xsv x/\xtp x:=by
 obtain⟨hl,hf⟩:=h.struct_inv Tryz.underlying78
 have e_:prog.cellsOf 78=4:=by kernel_rfl
 rw[e_]at hl
 have e_3:prog.cellsOf 3=1:=by kernel_rfl
 have e_36:prog.cellsOf 36=1:=by kernel_rfl
 have e_74:prog.cellsOf 74=1:=by kernel_rfl
 obtain⟨c0,c1,c2,c3,rfl⟩:∃c0 c1 c2 c3,cs=[c0,c1,c2,c3]:=by
  match cs,hl with
  |[c0,c1,c2,c3],_=>exact⟨c0,c1,c2,c3,rfl⟩
 have h0:Ty prog 3 [c0]:=by
  have:=hf _ (Wad (i:=0) rfl)
  simp only[e_3]at this;exact this
 obtain⟨x0,q0,o0⟩:=ti_3 _ h0
 have h1:Ty prog 3 [c1]:=by
  have:=hf _ (Wad (i:=1) rfl)
  simp only[e_3]at this;exact this
 obtain⟨x1,q1,o1⟩:=ti_3 _ h1
 have h2:Ty prog 36 [c2]:=by
  have:=hf _ (Wad (i:=2) rfl)
  simp only[e_36]at this;exact this
 obtain⟨x2,q2,o2⟩:=ycm _ h2
 have h3:Ty prog 74 [c3]:=by
  have:=hf _ (Wad (i:=3) rfl)
  simp only[e_74]at this;exact this
 obtain⟨x3,q3,o3⟩:=yom _ h3;refine⟨⟨x0,x1,x2,x3⟩,?_,⟨o0,o1,o2,o3⟩⟩
 have hx:xsv ⟨x0,x1,x2,x3⟩=eI x0++eI x1++(eL eI) x2++(eL xsp) x3:=by simp[go_sem]
 rw[hx,<-q0,<-q1,<-q2,<-q3];rfl
set_option maxRecDepth 100000 in
theorem yoy (cs:List C) (h:Ty prog 29 cs):∃x:List xs2,cs=(eL xsv) x/\(okL xtp) x:=by
 obtain⟨rows,rfl,hl,hr⟩:=h.slice_inv Tryz.underlying29;obtain⟨xs,rfl,ho⟩:=zkl yok rows hr;exact⟨xs,rfl,by simpa using hl,ho⟩
def xty (x:xsj):Prop:=xtw x.Lattice/\(okL xtm) x.Sites/\(okL xtn) x.Vars/\(okL xto) x.Blocks/\(okL xtp) x.Tasks
set_option maxRecDepth 100000 in
theorem yox (cs:List C) (h:Ty prog 31 cs):∃x:xsj,cs=xso x/\xty x:=by
 obtain⟨hl,hf⟩:=h.struct_inv Tryz.underlying31
 have e_:prog.cellsOf 31=6:=by kernel_rfl
 rw[e_]at hl
 have e_25:prog.cellsOf 25=2:=by kernel_rfl
 have e_26:prog.cellsOf 26=1:=by kernel_rfl
 have e_27:prog.cellsOf 27=1:=by kernel_rfl
 have e_28:prog.cellsOf 28=1:=by kernel_rfl
 have e_29:prog.cellsOf 29=1:=by kernel_rfl
 obtain⟨c0,c1,c2,c3,c4,c5,rfl⟩:∃c0 c1 c2 c3 c4 c5,cs=[c0,c1,c2,c3,c4,c5]:=by
  match cs,hl with
  |[c0,c1,c2,c3,c4,c5],_=>exact⟨c0,c1,c2,c3,c4,c5,rfl⟩
 have h0:Ty prog 25 [c0,c1]:=by
  have:=hf _ (Wad (i:=0) rfl)
  simp only[e_25]at this;exact this
 obtain⟨x0,q0,o0⟩:=yo2 _ h0
 have h1:Ty prog 26 [c2]:=by
  have:=hf _ (Wad (i:=1) rfl)
  simp only[e_26]at this;exact this
 obtain⟨x1,q1,o1⟩:=yo1 _ h1
 have h2:Ty prog 27 [c3]:=by
  have:=hf _ (Wad (i:=2) rfl)
  simp only[e_27]at this;exact this
 obtain⟨x2,q2,o2⟩:=yo0 _ h2
 have h3:Ty prog 28 [c4]:=by
  have:=hf _ (Wad (i:=3) rfl)
  simp only[e_28]at this;exact this
 obtain⟨x3,q3,o3⟩:=yoz _ h3
 have h4:Ty prog 29 [c5]:=by
  have:=hf _ (Wad (i:=4) rfl)
  simp only[e_29]at this;exact this
 obtain⟨x4,q4,o4⟩:=yoy _ h4;refine⟨⟨x0,x1,x2,x3,x4⟩,?_,⟨o0,o1,o2,o3,o4⟩⟩
 have hx:xso ⟨x0,x1,x2,x3,x4⟩=xs3 x0++(eL xsr) x1++(eL xst) x2++(eL xsu) x3++(eL xsv) x4:=by simp[go_sem]
 rw[hx,<-q0,<-q1,<-q2,<-q3,<-q4];rfl
theorem yoh {X:V} (h:TyV prog 31 X):∃x:xsj,X=.agg (xso x)/\xty x:=by
 obtain⟨cs,rfl,h2⟩:=h.agg_inv (by simp[zqx,Tryz.underlying31]);obtain⟨x,rfl,o⟩:=yox _ h2;exact⟨x,rfl,o⟩
set_option maxRecDepth 100000 in
theorem yow (cs:List C) (h:Ty prog 32 cs):∃x:List (List Int),cs=(eL (eL eI)) x/\(okL (okL (okI .i64))) x:=by
 obtain⟨rows,rfl,hl,hr⟩:=h.slice_inv Tryz.underlying32;obtain⟨xs,rfl,ho⟩:=zkl ycm rows hr;exact⟨xs,rfl,by simpa using hl,ho⟩
set_option maxRecDepth 100000 in
theorem yon (cs:List C) (h:Ty prog 71 cs):∃x:A4 Int,cs=(eA4 eI) x/\(okA4 (okI .i64)) x:=by
 obtain⟨hl,hf⟩:=h.array_inv Tryz.underlying71
 have e_:prog.cellsOf 71=4:=by kernel_rfl
 rw[e_]at hl
 have e_3:prog.cellsOf 3=1:=by kernel_rfl
 obtain⟨c0,c1,c2,c3,rfl⟩:∃c0 c1 c2 c3,cs=[c0,c1,c2,c3]:=by
  match cs,hl with
  |[c0,c1,c2,c3],_=>exact⟨c0,c1,c2,c3,rfl⟩
 have h0:Ty prog 3 [c0]:=by
  have:=hf 0 (by decide)
  simp only[e_3]at this;exact this
 obtain⟨x0,q0,o0⟩:=ti_3 _ h0
 have h1:Ty prog 3 [c1]:=by
  have:=hf 1 (by decide)
  simp only[e_3]at this;exact this
 obtain⟨x1,q1,o1⟩:=ti_3 _ h1
 have h2:Ty prog 3 [c2]:=by
  have:=hf 2 (by decide)
  simp only[e_3]at this;exact this
 obtain⟨x2,q2,o2⟩:=ti_3 _ h2
 have h3:Ty prog 3 [c3]:=by
  have:=hf 3 (by decide)
  simp only[e_3]at this;exact this
 obtain⟨x3,q3,o3⟩:=ti_3 _ h3;refine⟨⟨x0,x1,x2,x3⟩,?_,⟨o0,o1,o2,o3⟩⟩
 have hx:(eA4 eI) ⟨x0,x1,x2,x3⟩=eI x0++eI x1++eI x2++eI x3:=by simp[go_sem]
 rw[hx,<-q0,<-q1,<-q2,<-q3];rfl
set_option maxRecDepth 100000 in
theorem yov (cs:List C) (h:Ty prog 33 cs):∃x:List (A4 Int),cs=(eL (eA4 eI)) x/\(okL (okA4 (okI .i64))) x:=by
 obtain⟨rows,rfl,hl,hr⟩:=h.slice_inv Tryz.underlying33;obtain⟨xs,rfl,ho⟩:=zkl yon rows hr;exact⟨xs,rfl,by simpa using hl,ho⟩
def xtz (x:xs4):Prop:=(okL (okL (okI .i64))) x.Cells/\(okL (okA4 (okI .i64))) x.Blocks
set_option maxRecDepth 100000 in
theorem you (cs:List C) (h:Ty prog 35 cs):∃x:xs4,cs=xs9 x/\xtz x:=by
 obtain⟨hl,hf⟩:=h.struct_inv Tryz.underlying35
 have e_:prog.cellsOf 35=2:=by kernel_rfl
 rw[e_]at hl
 have e_32:prog.cellsOf 32=1:=by kernel_rfl
 have e_33:prog.cellsOf 33=1:=by kernel_rfl
 obtain⟨c0,c1,rfl⟩:∃c0 c1,cs=[c0,c1]:=by
  match cs,hl with
  |[c0,c1],_=>exact⟨c0,c1,rfl⟩
 have h0:Ty prog 32 [c0]:=by
  have:=hf _ (Wad (i:=0) rfl)
  simp only[e_32]at this;exact this
 obtain⟨x0,q0,o0⟩:=yow _ h0
 have h1:Ty prog 33 [c1]:=by
  have:=hf _ (Wad (i:=1) rfl)
  simp only[e_33]at this;exact this
 obtain⟨x1,q1,o1⟩:=yov _ h1;refine⟨⟨x0,x1⟩,?_,⟨o0,o1⟩⟩
 have hx:xs9 ⟨x0,x1⟩=(eL (eL eI)) x0++(eL (eA4 eI)) x1:=by simp[go_sem]
 rw[hx,<-q0,<-q1];rfl
def xtq (x:xsx):Prop:=(okI .i64) x.Site/\(okI .i64) x.Value
set_option maxRecDepth 100000 in
theorem ykd (cs:List C) (h:Ty prog 111 cs):∃x:xsx,cs=xss x/\xtq x:=by
 obtain⟨hl,hf⟩:=h.struct_inv Tryz.underlying111
 have e_:prog.cellsOf 111=2:=by kernel_rfl
 rw[e_]at hl
 have e_3:prog.cellsOf 3=1:=by kernel_rfl
 obtain⟨c0,c1,rfl⟩:∃c0 c1,cs=[c0,c1]:=by
  match cs,hl with
  |[c0,c1],_=>exact⟨c0,c1,rfl⟩
 have h0:Ty prog 3 [c0]:=by
  have:=hf _ (Wad (i:=0) rfl)
  simp only[e_3]at this;exact this
 obtain⟨x0,q0,o0⟩:=ti_3 _ h0
 have h1:Ty prog 3 [c1]:=by
  have:=hf _ (Wad (i:=1) rfl)
  simp only[e_3]at this;exact this
 obtain⟨x1,q1,o1⟩:=ti_3 _ h1;refine⟨⟨x0,x1⟩,?_,⟨o0,o1⟩⟩
 have hx:xss ⟨x0,x1⟩=eI x0++eI x1:=by simp[go_sem]
 rw[hx,<-q0,<-q1];rfl
set_option maxRecDepth 100000 in
theorem yot (cs:List C) (h:Ty prog 37 cs):∃x:List xsx,cs=(eL xss) x/\(okL xtq) x:=by
 obtain⟨rows,rfl,hl,hr⟩:=h.slice_inv Tryz.underlying37;obtain⟨xs,rfl,ho⟩:=zkl ykd rows hr;exact⟨xs,rfl,by simpa using hl,ho⟩
def xtr (x:xs1):Prop:=xtz x.Memory/\(okL (okI .i64)) x.Left/\(okL (okI .i64)) x.Latches/\(okL xtq) x.Events/\(okI .i64) x.Now
set_option maxRecDepth 100000 in
theorem ykb (cs:List C) (h:Ty prog 39 cs):∃x:xs1,cs=xs6 x/\xtr x:=by
 obtain⟨hl,hf⟩:=h.struct_inv Tryz.underlying39
 have e_:prog.cellsOf 39=6:=by kernel_rfl
 rw[e_]at hl
 have e_3:prog.cellsOf 3=1:=by kernel_rfl
 have e_35:prog.cellsOf 35=2:=by kernel_rfl
 have e_36:prog.cellsOf 36=1:=by kernel_rfl
 have e_37:prog.cellsOf 37=1:=by kernel_rfl
 obtain⟨c0,c1,c2,c3,c4,c5,rfl⟩:∃c0 c1 c2 c3 c4 c5,cs=[c0,c1,c2,c3,c4,c5]:=by
  match cs,hl with
  |[c0,c1,c2,c3,c4,c5],_=>exact⟨c0,c1,c2,c3,c4,c5,rfl⟩
 have h0:Ty prog 35 [c0,c1]:=by
  have:=hf _ (Wad (i:=0) rfl)
  simp only[e_35]at this;exact this
 obtain⟨x0,q0,o0⟩:=you _ h0
 have h1:Ty prog 36 [c2]:=by
  have:=hf _ (Wad (i:=1) rfl)
  simp only[e_36]at this;exact this
 obtain⟨x1,q1,o1⟩:=ycm _ h1
 have h2:Ty prog 36 [c3]:=by
  have:=hf _ (Wad (i:=2) rfl)
  simp only[e_36]at this;exact this
 obtain⟨x2,q2,o2⟩:=ycm _ h2
 have h3:Ty prog 37 [c4]:=by
  have:=hf _ (Wad (i:=3) rfl)
  simp only[e_37]at this;exact this
 obtain⟨x3,q3,o3⟩:=yot _ h3
 have h4:Ty prog 3 [c5]:=by
  have:=hf _ (Wad (i:=4) rfl)
  simp only[e_3]at this;exact this
 obtain⟨x4,q4,o4⟩:=ti_3 _ h4;refine⟨⟨x0,x1,x2,x3,x4⟩,?_,⟨o0,o1,o2,o3,o4⟩⟩
 have hx:xs6 ⟨x0,x1,x2,x3,x4⟩=xs9 x0++(eL eI) x1++(eL eI) x2++(eL xss) x3++eI x4:=by simp[go_sem]
 rw[hx,<-q0,<-q1,<-q2,<-q3,<-q4];rfl
set_option maxRecDepth 100000 in
theorem yor (cs:List C) (h:Ty prog 58 cs):∃x:A2 xs1,cs=(eA2 xs6) x/\(okA2 xtr) x:=by
 obtain⟨hl,hf⟩:=h.array_inv Tryz.underlying58
 have e_:prog.cellsOf 58=12:=by kernel_rfl
 rw[e_]at hl
 have e_39:prog.cellsOf 39=6:=by kernel_rfl
 obtain⟨c0,c1,c2,c3,c4,c5,c6,c7,c8,c9,c10,c11,rfl⟩:∃c0 c1 c2 c3 c4 c5 c6 c7 c8 c9 c10 c11,cs=[c0,c1,c2,c3,c4,c5,c6,c7,c8,c9,c10,c11]:=by
  match cs,hl with
  |[c0,c1,c2,c3,c4,c5,c6,c7,c8,c9,c10,c11],_=>exact⟨c0,c1,c2,c3,c4,c5,c6,c7,c8,c9,c10,c11,rfl⟩
 have h0:Ty prog 39 [c0,c1,c2,c3,c4,c5]:=by
  have:=hf 0 (by decide)
  simp only[e_39]at this;exact this
 obtain⟨x0,q0,o0⟩:=ykb _ h0
 have h1:Ty prog 39 [c6,c7,c8,c9,c10,c11]:=by
  have:=hf 1 (by decide)
  simp only[e_39]at this;exact this
 obtain⟨x1,q1,o1⟩:=ykb _ h1;refine⟨⟨x0,x1⟩,?_,⟨o0,o1⟩⟩
 have hx:(eA2 xs6) ⟨x0,x1⟩=xs6 x0++xs6 x1:=by simp[go_sem]
 rw[hx,<-q0,<-q1];rfl
theorem yof {X:V} (h:TyV prog 58 X):∃x:A2 xs1,X=.agg ((eA2 xs6) x)/\(okA2 xtr) x:=by
 obtain⟨cs,rfl,h2⟩:=h.agg_inv (by simp[zqx,Tryz.underlying58]);obtain⟨x,rfl,o⟩:=yor _ h2;exact⟨x,rfl,o⟩
end Go.Lz

end
section
namespace Go.Proofs.YtcceddpmmgabjaaGreat
open Go.Lz Go.ChangeShapes Go.WideShapes Go.ChangeAt Go.RowKit
theorem ownK:ownKnob prog.godebug=none:=by kernel_rfl
theorem ydt:laidOutB prog=true:=by kernel_rfl
set_option maxRecDepth 100000 in
theorem z0o (os:Os) (started:os.Started) (H:Type) (enc:TypeId×Value->H):
  ReturnsInHanded {} Tryz.checked os 6 .any (Rows.evalLowSpec.pre6 enc prog f6 Rows.evalLowRow.domain false) (Rows.evalLowSpec.post enc prog f6 false true false false):=by
 refine z3k (C:=Tryz.checked) (S:=[31,25,22,9,23,103,3,26,129,27,66,64,28,69,29,78,36,74,76,42,40,58,39,35,32,33,71,37,111]) (b:=4) ownK started (by kernel_rfl) func6
  (ChangeSpec.witness6 (enc:=enc) (C:=Tryz.checked) false ⟨#[], #[.agg #[.slice none 0 0,.slice none 0 0,.slice none 0 0,.slice none 0 0,.slice none 0 0,.slice none 0 0],.agg #[.slice none 0 0,.slice none 0 0,.slice none 0 0,.slice none 0 0,.slice none 0 0,.int .i64 0,.slice none 0 0,.slice none 0 0,.slice none 0 0,.slice none 0 0,.slice none 0 0,.int .i64 0],.agg #[.int .i64 0,.int .i64 0,.int .i64 0,.string ⟨#[]⟩,.slice none 0 0]],[]⟩ 8 (by kernel_rfl) (by kernel_rfl) (by kernel_rfl) (by kernel_rfl))
  (by kernel_rfl) (by kernel_rfl) ydt rfl rfl Tryz.underlying4 ?_ ?_ rfl
 ·intro ds hl
  match ds,hl with
  |[d0,d1,d2],_=>rfl
 ·intro Xs hT _
  obtain⟨x0,xs,rfl,hx0,hT⟩:=TysV.cons_inv (P:=prog) (t:=31) (ts:=[58,42]) hT;obtain⟨x1,xs,rfl,hx1,hT⟩:=TysV.cons_inv hT;obtain⟨x2,xs,rfl,hx2,hT⟩:=TysV.cons_inv hT;obtain rfl:=TysV.nil_inv hT;obtain⟨p,rfl,o_p⟩:=yoh hx0;obtain⟨l,rfl,o_l⟩:=yof hx1;obtain⟨e,rfl,o_e⟩:=yog hx2;exact zpz (ydi p l e)
theorem evalLow_holds:Rows.EvalLowSaid:=
 OpenClaim.holds_of_wide 6 f6 rfl rfl rfl rfl rfl rfl rfl ⟨rfl,rfl,rfl,rfl,rfl⟩ rfl rfl rfl rfl rfl (by kernel_rfl) func6 (by kernel_rfl)
  (of_decide_eq_true (by kernel_rfl)) (by unfold Func.isWrapper;first|(rw[if_pos (by decide+kernel)];kernel_rfl)|(rw[if_neg (by decide+kernel)];exact⟨rfl,rfl⟩))
  (fun os started H enc _=>z0o os started H enc)
#print axioms evalLow_holds
end Go.Proofs.YtcceddpmmgabjaaGreat

end
