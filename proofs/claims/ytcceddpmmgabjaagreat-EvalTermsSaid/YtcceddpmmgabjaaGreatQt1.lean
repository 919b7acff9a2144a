/- The parts of a proof: LzG, Lz1, Lz2, Lz3, Lz4, Lz5, Lz6, Lz7, Lz8, Lz9, Lz10 -/
import Derived.Laws.World
import Derived.Calls
import Derived.Laws.Sem
import Derived.Below
import Derived.Laws.AppendOwn
import Derived.Laws.Tables
import Derived.Great.BuildSlice
import Derived.Laws.MakeOwn
import Derived.Laws.IdiomCopy
import Derived.Lib.ConvBytes
import Derived.Laws.BytesString
import Derived.Laws.Small
import Derived.Laws.Strings
import Derived.Laws.StructEq
import Derived.DeepKeys
import Derived.Deep.AppendSrc
import Derived.Laws.BytesArg
import Derived.Laws.Slices
import Derived.MapKept
set_option linter.unusedVariables false
set_option linter.unusedSimpArgs false
section
namespace Go.Lz
abbrev Waa:=@Option.bind_some
abbrev Wab:=@Option.some.inj
abbrev Wac:=@List.getElem?_eq_getElem
abbrev Wad:=@List.mem_of_getElem?
abbrev Wae:=@Nat.le_refl
abbrev Waf:=@Nat.zero_le
abbrev Wag:=@List.getElem?_eq_some_iff
abbrev Wah:=@Array.getD_eq_getD_getElem?
abbrev Wai:=@List.length_append
abbrev Waj:=@List.length_cons
abbrev Wak:=@List.all_eq_true
abbrev Wal:=@Option.map_eq_some_iff
abbrev Wam:=@List.length_nil
abbrev Wan:=@Bool.and_eq_true
abbrev Wao:=@List.getElem?_map
abbrev Wap:=@List.getElem_mem
abbrev Waq:=@List.length_map
abbrev War:=@Nat.lt_of_lt_of_le
abbrev Was:=@Array.getElem?_eq_some_iff
abbrev Wat:=@List.getElem?_cons_zero
abbrev Wau:=@List.mem_map
abbrev Wav:=@Nat.add_mul
abbrev Waw:=@Int.ofNat_lt
abbrev Wax:=@List.idxOf_cons
abbrev Way:=@List.mapIdx_cons
abbrev Waz:=@Nat.add_assoc
abbrev WaA:=@List.length_take
abbrev WaB:=@List.mem_cons
abbrev WaC:=@List.mem_range
abbrev WaD:=@Bool.false_eq_true
abbrev WaE:=@Bool.or_eq_true
abbrev WaF:=@Nat.le_trans
abbrev WaG:=@Nat.lt_or_ge
abbrev WaH:=@Nat.mul_le_mul_right
abbrev WaI:=@Option.getD_some
abbrev WaJ:=@List.eq_nil_of_length_eq_zero
abbrev WaK:=@List.getElem?_cons_succ
abbrev WaL:=@List.map_set
abbrev WaM:=@List.length_drop
abbrev WaN:=@List.mem_append
abbrev WaO:=@Prod.mk.inj
abbrev WaP:=@Option.some.injEq
abbrev WaQ:=@List.getElem?_take
abbrev WaR:=@Array.getElem?_eq_getElem
abbrev WaS:=@Nat.le_of_lt
abbrev WaT:=@List.getElem?_set_ne
abbrev WaU:=@List.getElem?_set_self
abbrev WaV:=@List.mem_iff_getElem
abbrev WaW:=@Classical.choose_spec
abbrev WaX:=@List.mem_singleton
abbrev WaY:=@Nat.sub_zero
abbrev WaZ:=@List.take_of_length_le
abbrev Wa0:=@List.getElem?_drop
abbrev Wa1:=@Bool.eq_iff_iff
abbrev Wa2:=@List.mem_of_mem_take
abbrev Wa3:=@List.drop_eq_getElem_cons
abbrev Wa4:=@Bool.not_eq_true'
abbrev Wa5:=@List.mem_of_mem_drop
abbrev Wa6:=@List.getElem?_toArray
abbrev Wa7:=@List.length_set
abbrev Wa8:=@List.getElem?_append_left
abbrev Wa9:=@List.getElem?_set
abbrev Wba:=@List.append_nil
abbrev Wbb:=@Array.length_toList
abbrev Wbc:=@Nat.succ_mul
abbrev Wbd:=@Nat.zero_add
abbrev Wbe:=@Array.getElem?_append_left
abbrev Wbf:=@Nat.sub_self
abbrev Wbg:=@List.map_cons
abbrev Wbh:=@List.cons_append
abbrev Wbi:=@List.all_cons
abbrev Wbj:=@List.getElem_of_mem
abbrev Wbk:=@Option.bind_eq_some_iff
abbrev Wbl:=@List.append_assoc
abbrev Wbm:=@List.getElem?_append
abbrev Wbn:=@Nat.add_zero
abbrev Wbo:=@List.map_map
abbrev Wbp:=@Array.ext'
abbrev Wbq:=@Option.map_some
abbrev Wbr:=@List.isEmpty_iff
abbrev Wbs:=@List.take_length
abbrev Wbt:=@Nat.lt_succ_self
abbrev Wbu:=@List.mem_filterMap
abbrev Wbv:=@List.any_eq_true
abbrev Wbw:=@Bool.or_eq_false_iff
abbrev Wbx:=@List.drop_eq_nil_of_le
abbrev Wby:=@List.length_singleton
abbrev Wbz:=@Nat.mul_comm
abbrev WbA:=@List.ext_getElem?
abbrev WbB:=@List.map_congr_left
abbrev WbC:=@List.eq_of_mem_replicate
abbrev WbD:=@List.getElem?_append_right
abbrev WbE:=@Array.getElem?_setIfInBounds
abbrev WbF:=@Nat.lt_or_eq_of_le
abbrev WbG:=@List.drop_zero
abbrev WbH:=@List.filterMap_cons
abbrev WbI:=@List.getElem?_eq_none
abbrev WbJ:=@List.getElem?_of_mem
abbrev WbK:=@Nat.add_sub_cancel_left
abbrev WbL:=@Nat.add_comm
abbrev WbM:=@Nat.le_total
abbrev WbN:=@Bool.not_false
abbrev WbO:=@List.mem_cons_of_mem
abbrev WbP:=@List.mem_cons_self
abbrev WbQ:=@List.find?_cons
abbrev WbR:=@List.filterMap_nil
abbrev WbS:=@Prod.mk.injEq
abbrev WbT:=@List.mapM_cons
abbrev WbU:=@List.take_append_drop
abbrev WbV:=@Array.getElem?_map
abbrev WbW:=@List.getD_cons_zero
abbrev WbX:=@List.map_append
abbrev WbY:=@Array.size_setIfInBounds
abbrev WbZ:=@List.mem_or_eq_of_mem_set
abbrev Wb0:=@Int.fdiv_eq_ediv_of_nonneg
abbrev Wb1:=@Array.getElem?_append
abbrev Wb2:=@Array.getElem?_modify
abbrev Wb3:=@Option.isSome_iff_exists
abbrev Wb4:=@List.getElem?_replicate
abbrev Wb5:=@Nat.lt_succ_of_lt
abbrev Wb6:=@List.any_eq_false
abbrev Wb7:=@Bool.not_eq_true
abbrev Wb8:=@Nat.lt_trichotomy
abbrev Wb9:=@List.getD_cons_succ
abbrev Wca:=@Option.getD_none
abbrev Wcb:=@List.contains_eq_mem
abbrev Wcc:=@List.findSome?_cons
abbrev Wcd:=@List.contains_cons
abbrev Wce:=@Classical.byContradiction
abbrev Wcf:=@Array.getElem?_append_right
abbrev Wcg:=@List.eq_nil_iff_forall_not_mem
abbrev Wch:=@Array.getElem?_replicate
abbrev Wci:=@List.findIdx?_eq_some_iff_getElem
abbrev Wcj:=@Bool.eq_false_or_eq_true
end Go.Lz
namespace Go.Lz
def GT:List (Nat×List Value):=[]
def ownLitL:List String:=["lattice.go:13"]
def fzPosL:List String:=[]
def cvPosL:List String:=[]
def tailPos:List String:=[]
def tailFn:List Nat:=[71,73]
def mkPosL:List String:=["eval.go:29","ref.go:31","law.go:76"]
def ownFnL:List String:=["lazaretto/eval.Own"]
def floPos:List String:=["ref.go:79","eval.go:34","eval.go:38","eval.go:103","eval.go:124","eval.go:140"]
def floFn:List Nat:=[34]
end Go.Lz

end
section
namespace Go.Lz
def lim:Nat:=2^48
inductive C where
 |int (k:IntKind) (n:Int)
 |bool (b:Bool)
 |str (s:List UInt8)
 |sl (rows:List (List C))
 |slf (rows:List (List C))
 |iptr (row:List C) (off:Nat)
 |fn (f:FuncId) (cap:List C)
 |ifc (t:TypeId) (cs:List C)
 |nilfn|nilif|nilp|nilm
 |ref (id ver row off:Nat)
 |msl (id ver lo hi:Nat)
 |mp (id:Nat)
 deriving Inhabited
inductive O where
 |cells (ver sz:Nat) (rows:List (List C))
 |map (es:List (C×C))
 |dead
 deriving Inhabited
structure Bd where
 blk:Nat
 off:Nat
 cap:Nat
structure Env where
 w:World
 Fr:Nat->Prop
 bd:Nat->Bd
 H:List O
def Env.live (E:Env) (id:Nat):O->Prop
 |.cells .. =>(E.bd id).cap≠0
 |.map _=>True
 |.dead=>False
def Env.own (E:Env) (b:Nat):Prop:=∃(id:Nat) (o:O),E.H[id]? =some o/\E.live id o/\(E.bd id).blk=b
def Env.free (E:Env) (b:Nat):Prop:=b<E.w.heap.size/\¬E.Fr b/\¬E.own b
def at2 (rows:List (List C)) (i j:Nat):Option C:=(rows[i]?).bind (·[j]?)
inductive CRel (E:Env):C->Value->Prop
 |int {k:IntKind} {n:Int} (h:k.min<=n/\n<=k.max):CRel E (.int k n) (.int k n)
 |bool {b:Bool}:CRel E (.bool b) (.bool b)
 |str {s:List UInt8} {b:ByteArray} (h:b.data.toList=s) (hl:s.length<=lim):CRel E (.str s) (.string b)
 |sl {rows:List (List C)} {a:Option Addr} {n cap:Nat} (vals:Nat->Nat->Value) (sz:Nat) (hn:n=rows.length) (hcap:rows.length<=cap) (hlim:rows.length<=lim)
   (hsz:∀r∈rows,r.length=sz)
   (hb:rows≠[]->∃b off,a=some ⟨b,off,none⟩/\E.free b/\∀i j c,at2 rows i j=some c->E.w.cell? ⟨b,off+(i*sz+j),none⟩=some (vals i j))
   (hv:∀i j c,at2 rows i j=some c->CRel E c (vals i j)):CRel E (.sl rows) (.slice a n cap)
 |slf {rows:List (List C)} {v:Value} (h:CRel E (.sl rows) v) (hf:∃a,v=.slice a rows.length rows.length):CRel E (.slf rows) v
 |iptr {row:List C} {off b o:Nat} {v:Value} (vals:Nat->Value) (he:v=.pointer (some ⟨b,o+off,none⟩)) (hb:E.free b) (hc:∀j c,row[j]? =some c->E.w.cell? ⟨b,o+j,none⟩=some (vals j))
   (hv:∀j c,row[j]? =some c->CRel E c (vals j)):CRel E (.iptr row off) v
 |fn {f:FuncId} {cap:List C} {vs:Array Value} (hn:vs.size=cap.length) (hv:∀j c,cap[j]? =some c->CRel E c (vs.getD j undef)):CRel E (.fn f cap) (.func (.func f) #[] vs)
 |ifc {t:TypeId} {cs:List C} {vs:Array Value} (hn:vs.size=cs.length) (hv:∀j c,cs[j]? =some c->CRel E c (vs.getD j undef)):CRel E (.ifc t cs) (.iface t (.agg vs))
 |nilfn:CRel E .nilfn .nilFunc
 |nilif:CRel E .nilif .nilIface
 |nilp:CRel E .nilp (.pointer none)
 |nilm:CRel E .nilm (.map none)
 |ref {id ver row off:Nat} {v:Value} (hid:id<E.H.length) (hc:v.oneCell'=true)
   (h:∀cur sz rows,E.H[id]? =some (.cells cur sz rows)->ver<=cur/\(ver=cur->v=.pointer (some ⟨(E.bd id).blk,(E.bd id).off+(row*sz+off),none⟩))):CRel E (.ref id ver row off) v
 |msl {id ver lo hi:Nat} {v:Value} (hid:id<E.H.length) (hc:v.oneCell'=true)
   (h:∀cur sz rows,E.H[id]? =some (.cells cur sz rows)->ver<=cur/\(ver=cur->lo<=hi/\hi<=rows.length/\∃(a:Option Addr) (cap:Nat),v=.slice a (hi-lo) cap/\lo+cap=(E.bd id).cap/\
     (0<cap->a=some ⟨(E.bd id).blk,(E.bd id).off+lo*sz,none⟩))):CRel E (.msl id ver lo hi) v
 |mp {id:Nat} {v:Value} (hid:id<E.H.length) (hc:v.oneCell'=true)
   (h:∀es,E.H[id]? =some (.map es)->v=.map (some (E.bd id).blk)):CRel E (.mp id) v
theorem CRel.cell {E:Env} {c:C} {v:Value} (h:CRel E c v):v.oneCell'=true:=by
 induction h with
 |slf h hf I=>exact I
 |iptr vals he=>subst he;rfl
 |ref _ hc=>exact hc
 |msl _ hc=>exact hc
 |mp _ hc=>exact hc
 |_=>rfl
inductive V where
 |one (c:C)
 |agg (cs:List C)
 |tup (vs:List V)
 |un
 deriving Inhabited
inductive VRel (E:Env):V->Value->Prop
 |one {c:C} {v:Value} (h:CRel E c v):VRel E (.one c) v
 |agg {cs:List C} {vs:Array Value} (hn:vs.size=cs.length) (h:∀j c,cs[j]? =some c->CRel E c (vs.getD j undef)):VRel E (.agg cs) (.agg vs)
 |tup {Vs:List V} {vs:Array Value} (hn:vs.size=Vs.length) (h:∀j x,Vs[j]? =some x->VRel E x (vs.getD j undef)):VRel E (.tup Vs) (.tuple vs)
 |un {v:Value}:VRel E .un v
def RowAt (w:World) (b:Nat) (arr:Array Value) (ty:TypeId):Prop:=∃fz:Nat×Nat,w.heap[b]? =some (.cells arr ty fz)/\(fz=(0,0)\/arr.size<=fz.1)
theorem RowAt.lt {w:World} {b:Nat} {arr:Array Value} {ty:TypeId} (h:RowAt w b arr ty):b<w.heap.size:=by
 obtain⟨fz,h,_⟩:=h;exact(Was.1 h).1
theorem RowAt.cell? {w:World} {b:Nat} {arr:Array Value} {ty:TypeId} (h:RowAt w b arr ty) (i:Nat):w.cell? ⟨b,i,none⟩=arr[i]? :=by
 obtain⟨fz,h,_⟩:=h;simp[World.cell?,h]
theorem RowAt.congr {w w':World} {b:Nat} {arr:Array Value} {ty:TypeId} (h:RowAt w b arr ty) (e:w'.heap[b]? =w.heap[b]?):RowAt w' b arr ty:=by
 obtain⟨fz,h,h2⟩:=h;exact⟨fz,by rw[e];exact h,h2⟩
theorem RowAt.mk0 {w:World} {b:Nat} {arr:Array Value} {ty:TypeId} (h:w.heap[b]? =some (.cells arr ty (0,0))):RowAt w b arr ty:=⟨(0,0),h,.inl rfl⟩
def ORel (E:Env) (id:Nat):O->Prop
 |.cells _ sz rows=>rows.length<=(E.bd id).cap/\rows.length<=lim/\(∀r∈rows,r.length=sz)/\
    ((E.bd id).cap≠0->∃arr ty,RowAt E.w (E.bd id).blk arr ty/\(E.bd id).off+(E.bd id).cap*sz<=arr.size/\
    (∀i j c,at2 rows i j=some c->∃v,arr[(E.bd id).off+(i*sz+j)]? =some v/\CRel E c v))
 |.map es=>∃I clock,E.w.heap[(E.bd id).blk]? =some (.map I clock)/\I.size=es.length/\
    (∀(i:Nat) (k x:C),es[i]? =some (k,x)->∃e:MapEntry,I[i]? =some e/\CRel E k e.key/\CRel E x e.val)
 |.dead=>True
def Env.gl (E:Env):Prop:=∀p∈GT,E.free p.1/\∀(j:Nat) (v:Value),p.2[j]? =some v->E.w.cell? ⟨p.1,j,none⟩=some v
theorem Env.gl.of {E E':Env} (h:E.gl) (hf:∀b,E.free b->E'.free b) (hw:∀b o,E.free b->E'.w.cell? ⟨b,o,none⟩=E.w.cell? ⟨b,o,none⟩):E'.gl:=
 fun p I=>⟨hf _ (h p I).1,fun j v U=>by rw[hw _ _ (h p I).1];exact(h p I).2 j v U⟩
structure HRel (E:Env):Prop where
 obj:∀(id:Nat) (o:O),E.H[id]? =some o->ORel E id o
 dist:∀(i j:Nat) (x y:O),E.H[i]? =some x->E.H[j]? =some y->E.live i x->E.live j y->i≠j->(E.bd i).blk≠(E.bd j).blk
 nofr:∀(i:Nat) (x:O),E.H[i]? =some x->E.live i x->¬E.Fr (E.bd i).blk
 frlt:∀b,E.Fr b->b<E.w.heap.size
 glob:E.gl
theorem HRel.own_lt {E:Env} (h:HRel E) {b:Nat} (hb:E.own b):b<E.w.heap.size:=by
 obtain⟨id,o,ho,hl,rfl⟩:=hb
 have:=h.obj id o ho
 cases o with
 |cells ver sz rows=>
  obtain⟨_,_,_,I⟩:=this;obtain⟨arr,ty,I,_⟩:=I hl;exact I.lt
 |map es=>
  obtain⟨aa,clock,I,_⟩:=this
  rcases WaG (E.bd id).blk E.w.heap.size with U|U
  ·exact U
  ·simp[Array.getElem?_eq_none U]at I
 |dead=>exact hl.elim
structure Trans (E E':Env):Prop where
 fr:E'.Fr=E.Fr
 size:E.w.heap.size<=E'.w.heap.size
 os:E'.w.os=E.w.os
 tape:E'.w.tape=E.w.tape
 output:E'.w.output=E.w.output
 keep:∀b,b<E.w.heap.size->¬E.own b->E'.w.heap[b]? =E.w.heap[b]?
 own:∀b,b<E.w.heap.size->E'.own b->E.own b
 len:E.H.length<=E'.H.length
 objC:∀id ver' sz' rows',id<E.H.length->E'.H[id]? =some (.cells ver' sz' rows')->∃ver sz rows,E.H[id]? =some (.cells ver sz rows)/\ver<=ver'/\
  (ver=ver'->sz=sz'/\rows.length=rows'.length/\E'.bd id=E.bd id)
 objM:∀id es',id<E.H.length->E'.H[id]? =some (.map es')->∃es,E.H[id]? =some (.map es)/\(E'.bd id).blk=(E.bd id).blk
theorem Trans.refl (E:Env):Trans E E:=
 ⟨rfl,Wae _,rfl,rfl,rfl,fun _ _ _=>rfl,fun _ _ h=>h,Wae _,fun _ ver sz rows _ h=>⟨ver,sz,rows,h,Wae _,fun _=>⟨rfl,rfl,rfl⟩⟩,fun _ es _ h=>⟨es,h,rfl⟩⟩
theorem Trans.trans {a b c:Env} (h:Trans a b) (k:Trans b c):Trans a c where
 fr:=k.fr.trans h.fr
 size:=WaF h.size k.size
 os:=k.os.trans h.os
 tape:=k.tape.trans h.tape
 output:=k.output.trans h.output
 keep:=fun n hn I=>(k.keep n (War hn h.size) (fun hb=>I (h.own n hn hb))).trans (h.keep n hn I)
 own:=fun n hn I=>h.own n hn (k.own n (War hn h.size) I)
 len:=WaF h.len k.len
 objC:=fun id ab sz' U hid I=>by
  obtain⟨ad,ae,aa,h1,l1,e1⟩:=k.objC id ab sz' U (War hid h.len) I;obtain⟨ver,sz,rows,h0,l0,e0⟩:=h.objC id ad ae aa hid h1;refine⟨ver,sz,rows,h0,WaF l0 l1,fun e=>?_⟩;obtain⟨a1,a2,a3⟩:=e1 (by omega);obtain⟨b1,b2,b3⟩:=e0 (by omega);exact⟨b1.trans a1,b2.trans a2,a3.trans b3⟩
 objM:=fun id af hid I=>by
  obtain⟨ai,h1,e1⟩:=k.objM id af (War hid h.len) I;obtain⟨es,h0,e0⟩:=h.objM id ai hid h1;exact⟨es,h0,e1.trans e0⟩
theorem Trans.free {E E':Env} (t:Trans E E') {b:Nat} (h:E.free b):E'.free b:=
 ⟨War h.1 t.size,by rw[t.fr];exact h.2.1,fun I=>h.2.2 (t.own b h.1 I)⟩
theorem Trans.cell? {E E':Env} (t:Trans E E') {b:Nat} (h:E.free b) (o:Nat):E'.w.cell? ⟨b,o,none⟩=E.w.cell? ⟨b,o,none⟩:=by
 simp only[World.cell?,t.keep b h.1 h.2.2]
theorem HRel.gl {E E':Env} (h:HRel E) (t:Trans E E'):E'.gl:=h.glob.of (fun _ hb=>t.free hb) (fun _ o hb=>t.cell? hb o)
theorem CRel.trans {E E':Env} (t:Trans E E') {c:C} {v:Value} (h:CRel E c v):CRel E' c v:=by
 induction h with
 |int h=>exact .int h
 |bool=>exact .bool
 |str h hl=>exact .str h hl
 | @sl rows a n cap vals sz hn hcap hlim hsz hb hv I=>
   refine .sl vals sz hn hcap hlim hsz (fun ab=>?_) I;obtain⟨b,off,ha,hf,hc⟩:=hb ab;exact⟨b,off,ha,t.free hf,fun i j c ad=>by rw[t.cell? hf];exact hc i j c ad⟩
 |slf h hf I=>exact .slf I hf
 |iptr vals he hb hc hv I=>exact .iptr vals he (t.free hb) (fun j c hj=>by rw[t.cell? hb];exact hc j c hj) I
 |fn hn hv I=>exact .fn hn I
 |ifc hn hv I=>exact .ifc hn I
 |nilfn=>exact .nilfn
 |nilif=>exact .nilif
 |nilp=>exact .nilp
 |nilm=>exact .nilm
 | @ref id ver row off v hid hc h=>
   refine .ref (War hid t.len) hc fun aa sz' U ho=>?_;obtain⟨cur,sz,rows,h0,hle,he⟩:=t.objC id aa sz' U hid ho;obtain⟨h1,h2⟩:=h cur sz rows h0;refine⟨WaF h1 hle,fun e=>?_⟩;obtain⟨e1,_,e2⟩:=he (by omega);rw[e2,<-e1];exact h2 (by omega)
 | @msl id ver lo hi v hid hc h=>
   refine .msl (War hid t.len) hc fun aa sz' U ho=>?_;obtain⟨cur,sz,rows,h0,hle,he⟩:=t.objC id aa sz' U hid ho;obtain⟨h1,h2⟩:=h cur sz rows h0;refine⟨WaF h1 hle,fun e=>?_⟩;obtain⟨e1,e3,e2⟩:=he (by omega);rw[e2,<-e1,<-e3];exact h2 (by omega)
 | @mp id v hid hc h=>
   refine .mp (War hid t.len) hc fun ae ho=>?_;obtain⟨es,h0,he⟩:=t.objM id ae hid ho;rw[he];exact h es h0
theorem VRel.trans {E E':Env} (t:Trans E E') {x:V} {v:Value} (h:VRel E x v):VRel E' x v:=by
 induction h with
 |one h=>exact .one (h.trans t)
 |agg hn h=>exact .agg hn fun j c I=>(h j c I).trans t
 |tup hn h U=>exact .tup hn U
 |un=>exact .un
def V.cs:V->Option (List C)
 |.one c=>some [c]
 |.agg cs=>some cs
 |_=>none
theorem VRel.cells {E:Env} {x:V} {v:Value} {cs:List C} (h:VRel E x v) (I:x.cs=some cs):
  v.cells.size=cs.length/\∀(j:Nat) (c:C),cs[j]? =some c->∃y,v.cells[j]? =some y/\CRel E c y:=by
 cases h with
 |one h=>
  simp only[V.cs,WaP]at I;subst I
  have hv:v.cells= #[v]:=by
   have:=h.cell
   cases v<;>simp[Value.oneCell']at this<;>rfl
  rw[hv];refine⟨rfl,fun j c U=>?_⟩
  cases j with
  |zero=>simp at U;subst U;exact⟨v,rfl,h⟩
  |succ j=>simp at U
 |agg hn h=>
  simp only[V.cs,WaP]at I;subst I;refine⟨hn,fun j c U=>?_⟩
  have ab:j<_:=(Wag.1 U).1
  rename_i vs
  have aa:j<vs.size:=by omega
  refine⟨vs[j],by simp[Value.cells,aa],?_⟩
  have:=h j c U
  simpa [Array.getD,aa]using this
 |tup hn h=>simp[V.cs]at I
 |un=>simp[V.cs]at I
end Go.Lz

end
section
namespace Go.Lz
theorem ORel.keep {E E':Env} (t:Trans E E') {id:Nat} {o:O} (h:ORel E id o) (I:E'.bd id=E.bd id) (hb:E.live id o->E'.w.heap[(E.bd id).blk]? =E.w.heap[(E.bd id).blk]?):ORel E' id o:=by
 cases o with
 |cells ver sz rows=>
  obtain⟨h3,h4,h5,U⟩:=h;refine⟨by rw[I];exact h3,h4,h5,fun hc=>?_⟩;rw[I]at hc;obtain⟨arr,ty,h1,h2,U⟩:=U hc;refine⟨arr,ty,?_,?_,?_⟩
  ·rw[I];exact h1.congr (hb hc)
  ·rw[I];exact h2
  ·intro i j c ab
   obtain⟨v,hv,hr⟩:=U i j c ab;exact⟨v,by rw[I];exact hv,hr.trans t⟩
 |map es=>
  obtain⟨aa,clock,h1,h2,h3⟩:=h;refine⟨aa,clock,by rw[I,hb trivial];exact h1,h2,fun i k x hi=>?_⟩;obtain⟨e,he,hk,hx⟩:=h3 i k x hi;exact⟨e,he,hk.trans t,hx.trans t⟩
 |dead=>trivial
theorem HRel.lt {E:Env} (h:HRel E) {id:Nat} {o:O} (I:E.H[id]? =some o) (hl:E.live id o):(E.bd id).blk<E.w.heap.size:=
 h.own_lt ⟨id,o,I,hl,rfl⟩
theorem HRel.own_of {E:Env} {id:Nat} {o:O} (I:E.H[id]? =some o) (hl:E.live id o):E.own (E.bd id).blk:=⟨id,o,I,hl,rfl⟩
theorem zbj {E E':Env} {id:Nat} {o:O} (h:E'.bd id=E.bd id):E'.live id o↔E.live id o:=by
 cases o<;>simp[Env.live,h]
theorem zi9 {E:Env} (h:HRel E) (w':World) (hs:E.w.heap.size<=w'.heap.size) (I:w'.os=E.w.os) (ht:w'.tape=E.w.tape) (hu:w'.output=E.w.output)
  (hk:∀b,b<E.w.heap.size->w'.heap[b]? =E.w.heap[b]?):Trans E {E with w:=w'}/\HRel {E with w:=w'}:=by
 have own:∀b,({E with w:=w'}:Env).own b->E.own b:=by
  rintro b ⟨id,o,h1,h2,h3⟩
  exact⟨id,o,h1,(zbj (E:=E) (E':={E with w:=w'}) rfl).1 h2,h3⟩
 have t:Trans E {E with w:=w'}:=⟨rfl,hs,I,ht,hu,fun b hb _=>hk b hb,fun b _ h=>own b h,Wae _,fun _ ver sz rows _ h=>⟨ver,sz,rows,h,Wae _,fun _=>⟨rfl,rfl,rfl⟩⟩,fun _ es _ h=>⟨es,h,rfl⟩⟩
 have U:∀{id:Nat} {o:O},({E with w:=w'}:Env).live id o->E.live id o:=fun{id o} h=>(zbj (E:=E) (E':={E with w:=w'}) rfl).1 h
 exact⟨t,fun id o I=>(h.obj id o I).keep t rfl (fun hl=>hk _ (h.lt I hl)),fun i j x y hx hy lx ly=>h.dist i j x y hx hy (U lx) (U ly),fun i x hx lx=>h.nofr i x hx (U lx),fun b hb=>War (h.frlt b hb) hs,h.gl t⟩
theorem zwu {H:List O} {o:O} {i:Nat} {x:O} (I:(H++[o])[i]? =some x) (hi:i≠H.length):i<H.length/\H[i]? =some x:=by
 have U:i<(H++[o]).length:=(Wag.1 I).1
 simp at U;refine⟨by omega,?_⟩;simpa [Wa8 (show i<H.length by omega)]using I
theorem z0i {E:Env} (h:HRel E) (w':World) (B:Bd) (o:O) (hs:E.w.heap.size<=w'.heap.size) (ho:w'.os=E.w.os) (ht:w'.tape=E.w.tape) (hu:w'.output=E.w.output)
  (hk:∀b,b<E.w.heap.size->w'.heap[b]? =E.w.heap[b]?)
  (E':Env) (hE:E'=⟨w',E.Fr,fun i=>if i=E.H.length then B else E.bd i,E.H++[o]⟩) (hB:E'.live E.H.length o->E.w.heap.size<=B.blk):
  Trans E E'/\(ORel E' E.H.length o->HRel E'):=by
 subst hE
 have I:∀{i:Nat},i≠E.H.length->(⟨w',E.Fr,fun i=>if i=E.H.length then B else E.bd i,E.H++[o]⟩:Env).bd i=E.bd i:=fun{i} hi=>by simp[hi]
 have t:Trans E ⟨w',E.Fr,fun i=>if i=E.H.length then B else E.bd i,E.H++[o]⟩:=by
  refine⟨rfl,hs,ho,ht,hu,fun b hb _=>hk b hb,?_,by simp,?_,?_⟩
  ·rintro b hb ⟨id,x,U,af,ab⟩
   by_cases hid:id=E.H.length
   ·subst hid
    simp at U;subst U
    have:=hB af
    simp at ab;omega
   ·obtain⟨_,aa⟩:=zwu U hid
    rw[I hid]at ab;exact⟨id,x,aa,(zbj (I hid)).1 af,ab⟩
  ·intro id ai sz' ae hid U
   simp only[Wa8 hid]at U;exact⟨ai,sz',ae,U,Wae _,fun _=>⟨rfl,rfl,by simp[Nat.ne_of_lt hid]⟩⟩
  ·intro id aj hid U
   simp only[Wa8 hid]at U;exact⟨aj,U,by simp[Nat.ne_of_lt hid]⟩
 refine⟨t,fun hn=>⟨?_,?_,?_,fun b hb=>War (h.frlt b hb) hs,h.gl t⟩⟩
 ·intro id x U
  by_cases hid:id=E.H.length
  ·subst hid
   simp at U;subst U;exact hn
  ·obtain⟨_,aa⟩:=zwu U hid
   exact(h.obj id x aa).keep t (I hid) (fun hl=>hk _ (h.lt aa hl))
 ·intro i j x y U hy lx ly ak
  by_cases hi:i=E.H.length<;>by_cases hj:j=E.H.length
  ·omega
  ·obtain⟨_,ad⟩:=zwu hy hj
   have h1:=h.lt ad ((zbj (I hj)).1 ly)
   subst hi;simp at U;subst U
   have h2:=hB lx
   simp only[if_true,hj,if_false];omega
  ·obtain⟨_,aa⟩:=zwu U hi
   have h1:=h.lt aa ((zbj (I hi)).1 lx)
   subst hj;simp at hy;subst hy
   have h2:=hB ly
   simp only[if_true,hi,if_false];omega
  ·obtain⟨_,aa⟩:=zwu U hi
   obtain⟨_,ad⟩:=zwu hy hj;rw[I hi,I hj];exact h.dist i j x y aa ad ((zbj (I hi)).1 lx) ((zbj (I hj)).1 ly) ak
 ·intro i x U lx hf
  by_cases hi:i=E.H.length
  ·subst hi
   simp at U;subst U
   have h2:=hB lx
   simp at hf
   have:=h.frlt _ hf;omega
  ·obtain⟨_,aa⟩:=zwu U hi
   rw[I hi]at hf;exact h.nofr i x aa ((zbj (I hi)).1 lx) hf
theorem zof {E:Env} (h:HRel E) (id:Nat) (o o':O) (w':World) (B:Bd) (hid:E.H[id]? =some o)
  (hs:E.w.heap.size<=w'.heap.size) (ho:w'.os=E.w.os) (ht:w'.tape=E.w.tape) (hu:w'.output=E.w.output)
  (hk:∀b,b<E.w.heap.size->(E.live id o->b≠(E.bd id).blk)->w'.heap[b]? =E.w.heap[b]?)
  (hC:∀ab sz' aa,o'=.cells ab sz' aa->∃ver sz rows,o=.cells ver sz rows/\ver<=ab/\(ver=ab->sz=sz'/\rows.length=aa.length/\B=E.bd id))
  (hM:∀ae,o'=.map ae->∃es,o=.map es/\B.blk=(E.bd id).blk)
  (E':Env) (hE:E'=⟨w',E.Fr,fun i=>if i=id then B else E.bd i,E.H.set id o'⟩) (hB:E'.live id o'->E.live id o/\B.blk=(E.bd id).blk\/E.w.heap.size<=B.blk):
  Trans E E'/\(ORel E' id o'->HRel E'):=by
 subst hE
 have hlen:id<E.H.length:=(Wag.1 hid).1
 have I:∀{i:Nat},i≠id->(⟨w',E.Fr,fun i=>if i=id then B else E.bd i,E.H.set id o'⟩:Env).bd i=E.bd i:=fun{i} hi=>by simp[hi]
 have get:∀{i:Nat} {x:O},(E.H.set id o')[i]? =some x->i≠id->E.H[i]? =some x:=fun{i x} U hi=>by rwa[WaT (Ne.symm hi)]at U
 have self:∀{x:O},(E.H.set id o')[id]? =some x->x=o':=fun{x} U=>by rw[WaU hlen]at U;exact(Wab U).symm
 have t:Trans E ⟨w',E.Fr,fun i=>if i=id then B else E.bd i,E.H.set id o'⟩:=by
  refine⟨rfl,hs,ho,ht,hu,fun b hb aq=>hk b hb (fun hl e=>aq (e▸HRel.own_of hid hl)),?_,by simp,?_,?_⟩
  ·rintro b hb ⟨j,x,U,aj,af⟩
   by_cases hj:j=id
   ·subst hj
    have:=self U;subst this
    simp at af
    rcases hB aj with⟨l,e⟩|e
    ·rw[<-af,e];exact HRel.own_of hid l
    ·omega
   ·rw[I hj]at af
    exact⟨j,x,get U hj,(zbj (I hj)).1 aj,af⟩
  ·intro j ab sz' aa hj U
   by_cases e:j=id
   ·subst e
    have:=self U
    obtain⟨ver,sz,rows,h1,h2,h3⟩:=hC ab sz' aa this.symm;exact⟨ver,sz,rows,by rw[hid,h1],h2,fun e=>by obtain⟨a,b,c⟩:=h3 e;exact⟨a,b,by simp[c]⟩⟩
   ·exact⟨ab,sz',aa,get U e,Wae _,fun _=>⟨rfl,rfl,by simp[e]⟩⟩
  ·intro j ae hj U
   by_cases e:j=id
   ·subst e
    have:=self U
    obtain⟨es,h1,h2⟩:=hM ae this.symm;exact⟨es,by rw[hid,h1],by simp[h2]⟩
   ·exact⟨ae,get U e,by simp[e]⟩
 refine⟨t,fun hn=>⟨?_,?_,?_,fun b hb=>War (h.frlt b hb) hs,h.gl t⟩⟩
 ·intro j x U
  by_cases e:j=id
  ·subst e
   have:=self U;subst this
   exact hn
  ·have ad:=get U e
   exact(h.obj j x ad).keep t (I e) (fun ak=>hk _ (h.lt ad ak) (fun hl=>h.dist j id x o ad hid ak hl e))
 ·intro i j x y U hy lx ly ai
  by_cases hi:i=id<;>by_cases hj:j=id
  ·omega
  ·have al:=get hy hj
   have an:=(zbj (I hj)).1 ly
   have h1:=h.lt al an
   subst hi
   have:=self U;subst this
   rw[I hj];simp only[if_true]
   rcases hB lx with⟨l,e⟩|e
   ·rw[e];exact h.dist i j o y hid al l an ai
   ·omega
  ·have ad:=get U hi
   have ao:=(zbj (I hi)).1 lx
   have h1:=h.lt ad ao
   subst hj
   have:=self hy;subst this
   rw[I hi];simp only[if_true]
   rcases hB ly with⟨l,e⟩|e
   ·rw[e];exact h.dist i j x o ad hid ao l ai
   ·omega
  ·rw[I hi,I hj]
   exact h.dist i j x y (get U hi) (get hy hj) ((zbj (I hi)).1 lx) ((zbj (I hj)).1 ly) ai
 ·intro i x U lx hf
  by_cases hi:i=id
  ·subst hi
   have:=self U;subst this
   simp only[if_true]at hf
   rcases hB lx with⟨l,e⟩|e
   ·rw[e]at hf;exact h.nofr i o hid l hf
   ·have:=h.frlt _ hf;omega
  ·rw[I hi]at hf
   exact h.nofr i x (get U hi) ((zbj (I hi)).1 lx) hf
theorem ye1 {E:Env} (h:HRel E) (id:Nat) (E':Env) (hE:E'={E with H:=E.H.set id .dead}):Trans E E'/\HRel E':=by
 subst hE
 have U:∀{j:Nat} {x:O},({E with H:=E.H.set id .dead}:Env).live j x->E.live j x:=fun{j x} h=>(zbj (E:=E) (E':={E with H:=E.H.set id .dead}) rfl).1 h
 have get:∀(j:Nat) (x:O),(E.H.set id .dead)[j]? =some x->E.live j x->E.H[j]? =some x:=by
  intro j x I hl;rw[Wa9]at I;split at I
  ·split at I
   ·simp at I;subst I;exact hl.elim
   ·simp at I
  ·exact I
 have aa:∀(j:Nat) (x:O),(E.H.set id .dead)[j]? =some x->x=.dead\/E.H[j]? =some x:=by
  intro j x I;rw[Wa9]at I;split at I
  ·split at I
   ·simp at I;exact .inl I.symm
   ·simp at I
  ·exact .inr I
 have t:Trans E {E with H:=E.H.set id .dead}:=by
  refine⟨rfl,Wae _,rfl,rfl,rfl,fun _ _ _=>rfl,?_,by simp,?_,?_⟩
  ·rintro b hb ⟨j,x,I,hl,ab⟩
   exact⟨j,x,get j x I (U hl),U hl,ab⟩
  ·intro j ver sz rows hj I
   rcases aa j _ I with e|e
   ·cases e
   ·exact⟨ver,sz,rows,e,Wae _,fun _=>⟨rfl,rfl,rfl⟩⟩
  ·intro j es hj I
   rcases aa j _ I with e|e
   ·cases e
   ·exact⟨es,e,rfl⟩
 refine⟨t,?_,?_,?_,h.frlt,h.gl t⟩
 ·intro j x I
  rcases aa j x I with e|e
  ·subst e;trivial
  ·exact(h.obj j _ e).keep t rfl (fun _=>rfl)
 ·intro i j x y I hy lx ly ad
  exact h.dist i j x y (get i x I (U lx)) (get j y hy (U ly)) (U lx) (U ly) ad
 ·intro i x I lx
  exact h.nofr i x (get i x I (U lx)) (U lx)
theorem zzv {E:Env} (h:HRel E) (sz:Nat) (E':Env) (hE:E'=⟨E.w,E.Fr,fun i=>if i=E.H.length then⟨0,0,0⟩else E.bd i,E.H++[.cells 0 sz []]⟩):
  Trans E E'/\HRel E'/\∀a,CRel E' (.msl E.H.length 0 0 0) (.slice a 0 0):=by
 obtain⟨t,U⟩:=z0i h E.w ⟨0,0,0⟩ (.cells 0 sz []) (Wae _) rfl rfl rfl (fun _ _=>rfl) E' hE (by subst hE;simp[Env.live]);refine⟨t,U (by subst hE;exact⟨Waf _,Waf _,by simp,fun hc=>(hc (by simp)).elim⟩),?_⟩;subst hE;intro a;refine .msl (by simp) rfl fun cur sz' rows I=>?_;simp at I;obtain⟨rfl,rfl,rfl⟩:=I;exact⟨Wae _,fun _=>⟨Wae _,Waf _,a,0,rfl,by simp,fun hc=>by omega⟩⟩
end Go.Lz

end
section
namespace Go.Lz
def loK:IntKind->Int
 |.i8=>-128|.i16=>-32768|.i32=>-2147483648|.i64=>-9223372036854775808|_=>0
def hiK:IntKind->Int
 |.i8=>127|.i16=>32767|.i32=>2147483647|.i64=>9223372036854775807
 |.u8=>255|.u16=>65535|.u32=>4294967295|.u64=>18446744073709551615
def C.ofV:Value->Option C
 |.int k n=>if loK k<=n/\n<=hiK k then some (.int k n)else none
 |.bool b=>some (.bool b)
 |.string s=>if s.data.toList.length<=lim then some (.str s.data.toList)else none
 |.slice none 0 0=>some (.slf [])
 |.pointer none=>some .nilp
 |.map none=>some .nilm
 |.nilFunc=>some .nilfn
 |.nilIface=>some .nilif
 |_=>none
def V.ofV:Value->V
 |.agg cs=>match cs.toList.mapM C.ofV with|some l=>.agg l|none=>.un
 |v=>match C.ofV v with|some c=>.one c|none=>.un
structure R where
 pre:Prop
 fact:Prop
 v:V
 h:List O
def R.ok (v:V) (h:List O):R:=⟨True,True,v,h⟩
def R.bad:R:=⟨False,True,.un,[]⟩
def tAg (P:Program) (t:TypeId):Option (Bool×Nat):=
 match P.underlying t,P.info? t with
 |some (.struct _),some i|some (.array ..),some i=>some (true,i.size)
 |some _,some i=>some (false,i.size)
 |_,_=>none
def tSl (P:Program) (t:TypeId):Option (Nat×Nat×Nat):=
 match P.underlying t with
 |some (.slice e)=>match P.info? e with|some i=>some (e,i.size,i.bytes)|none=>none
 |_=>none
def tAr (P:Program) (t:TypeId):Option (Nat×Nat×Nat):=
 match P.underlying t with
 |some (.array n e)=>match P.info? e with|some i=>some (n,e,i.size)|none=>none
 |_=>none
def tFd (P:Program) (t:TypeId) (f:Nat):Option (Nat×Bool×Nat):=
 match P.underlying t with
 |some (.struct fs)=>match fs[f]? with
  |some f=>match tAg P f.type with|some (g,n)=>some (f.offset,g,n)|none=>none
  |none=>none
 |_=>none
def tZ (P:Program) (t:TypeId):Option V:=
 match P.info? t with
 |some i=>match i.zero with|some z=>some (V.ofV z)|none=>none
 |none=>none
def tK (P:Program) (t:TypeId):Option IntKind:=
 match P.underlying t with|some (.int k)=>some k|_=>none
def zy1 (P:Program) (t:TypeId):Bool:=
 match P.underlying t with|some .string=>true|_=>false
def z2f (P:Program) (t:TypeId):Bool:=
 match P.underlying t with|some .bool=>true|_=>false
def nth (rows:List (List C)) (i:Int):List C:=rows.getD i.toNat []
def zen {α:Type} (row:List α) (off:Nat) (cs:List α):List α:=row.take off++cs++row.drop (off+cs.length)
def ldV (g:Bool) (n:Nat) (row:List C) (off:Nat):V:=if g then .agg ((row.drop off).take n)else .one (row.getD off .nilp)
def wd (g:Bool) (n:Nat):Nat:=if g then n else 1
def andI (k:IntKind) (a b:Int):Int:=(BitVec.ofInt k.bits a&&&BitVec.ofInt k.bits b).toNat
def orI (k:IntKind) (a b:Int):Int:=(BitVec.ofInt k.bits a|||BitVec.ofInt k.bits b).toNat
def xorI (k:IntKind) (a b:Int):Int:=(BitVec.ofInt k.bits a^^^BitVec.ofInt k.bits b).toNat
def yko (k:IntKind) (a b:Int):Int:=(BitVec.ofInt k.bits a&&&~~~(BitVec.ofInt k.bits b)).toNat
def intF (op:BinOp) (k:IntKind) (a b:Int) (H:List O):R:=
 match op with
 |.add=>.ok (.one (.int k (k.wrap (a+b)))) H
 |.sub=>.ok (.one (.int k (k.wrap (a-b)))) H
 |.mul=>.ok (.one (.int k (k.wrap (a*b)))) H
 |.quo=>⟨b≠0,True,.one (.int k (k.wrap (a.tdiv b))),H⟩
 |.rem=>⟨b≠0,True,.one (.int k (a.tmod b)),H⟩
 |.eql=>.ok (.one (.bool (decide (a=b)))) H
 |.neq=>.ok (.one (.bool (!decide (a=b)))) H
 |.lss=>.ok (.one (.bool (decide (a<b)))) H
 |.leq=>.ok (.one (.bool (decide (a<=b)))) H
 |.gtr=>.ok (.one (.bool (decide (b<a)))) H
 |.geq=>.ok (.one (.bool (decide (b<=a)))) H
 |.and=>.ok (.one (.int k (k.wrap (andI k a b)))) H
 |.or=>.ok (.one (.int k (k.wrap (orI k a b)))) H
 |.xor=>.ok (.one (.int k (k.wrap (xorI k a b)))) H
 |.andNot=>.ok (.one (.int k (k.wrap (yko k a b)))) H
 |_=>.bad
def shF (op:BinOp) (k:IntKind) (a b:Int) (H:List O):R:=
 match op with
 |.shl=>⟨0<=b,True,.one (.int k (k.wrap (a*2^(min b.toNat k.bits)))),H⟩
 |.shr=>⟨0<=b,True,.one (.int k (a.fdiv (2^(min b.toNat k.bits)))),H⟩
 |_=>.bad
def isSh:BinOp->Bool
 |.shl=>true
 |.shr=>true
 |.add=>false
 |.sub=>false
 |.mul=>false
 |.quo=>false
 |.rem=>false
 |.and=>false
 |.or=>false
 |.xor=>false
 |.andNot=>false
 |.eql=>false
 |.neq=>false
 |.lss=>false
 |.leq=>false
 |.gtr=>false
 |.geq=>false
def strF (op:BinOp) (a b:List UInt8) (H:List O):R:=
 match op with
 |.add=>⟨a.length+b.length<=lim,True,.one (.str (a++b)),H⟩
 |.eql=>.ok (.one (.bool (decide (a=b)))) H
 |.neq=>.ok (.one (.bool (!decide (a=b)))) H
 |.lss=>.ok (.one (.bool (Op.bytesLess a b))) H
 |_=>.bad
inductive Lf where
 |i (k:IntKind) (n:Int)
 |b (b:Bool)
 |s (s:List UInt8)
 deriving DecidableEq
def litC (P:Program):Nat->TypeId->List C->Option (List Lf)
 |0,_,_=>none
 |d+1,t,cs=>
  match P.underlying t,cs with
  |some .bool,[.bool b]=>some [.b b]
  |some (.int q),[.int I n]=>if I=q then some [.i q n]else none
  |some .string,[.str s]=>some [.s s]
  |some (.array n e),cs=>if cs.length=P.cellsOf t then((List.range n).mapM fun i=>litC P d e ((cs.drop (i*P.cellsOf e)).take (P.cellsOf e))).map List.flatten else none
  |some (.struct fs),cs=>if cs.length=P.cellsOf t/\fs.all (·.name != "_")=true then(fs.toList.mapM fun f=>litC P d f.type ((cs.drop f.offset).take (P.cellsOf f.type))).map List.flatten else none
  |_,_=>none
def aggT (P:Program) (t:TypeId):Bool:=match P.underlying t with|some (.struct _)=>true|some (.array _ _)=>true|_=>false
def eqT (P:Program) (t:TypeId):Bool:=P.keyTypeAt 20 t&& !P.eqGuardType P.depth t&&aggT P t
def eqF (P:Program) (op:BinOp) (t:TypeId) (xs ys:List C) (H:List O):R:=
 match litC P 20 t xs,litC P 20 t ys with
 |some a,some b=>match op with
  |.eql=>⟨eqT P t=true,True,.one (.bool (decide (a=b))),H⟩
  |.neq=>⟨eqT P t=true,True,.one (.bool (!decide (a=b))),H⟩
  |_=>.bad
 |_,_=>.bad
def z99 (P:Program) (t:TypeId):Bool:=match P.underlying t with|some (.func _ _ _)=>true|_=>false
def nilF (P:Program) (op:BinOp) (t:TypeId) (b:Bool) (H:List O):R:=
 match op with
 |.eql=>⟨z99 P t=true,True,.one (.bool b),H⟩
 |.neq=>⟨z99 P t=true,True,.one (.bool (!b)),H⟩
 |_=>.bad
def binF (P:Program) (op:BinOp) (t:TypeId) (x y:V) (H:List O):R:=
 match x,y with
 |.agg xs,.agg ys=>eqF P op t xs ys H
 |.one (.fn _ _),.one .nilfn=>nilF P op t false H
 |.one .nilfn,.one .nilfn=>nilF P op t true H
 |.one (.int k a),.one (.int I b)=>match isSh op with
  |true=>shF op k a b H
  |false=>if k=I then intF op k a b H else .bad
 |.one (.str a),.one (.str b)=>strF op a b H
 |.one (.bool a),.one (.bool b)=>match z2f P t,op with
  |true,.eql=>.ok (.one (.bool (a==b))) H
  |true,.neq=>.ok (.one (.bool (!(a==b)))) H
  |_,_=>.bad
 |_,_=>.bad
def zv5 (H:List O):C->Option (List C×Nat×Prop)
 |.iptr row off=>some (row,off,True)
 |.ref id ver r off=>match H[id]? with
  |some (.cells cur _ rows)=>some (rows.getD r [],off,ver=cur/\r<rows.length)
  |_=>none
 |_=>none
def zuw (P:Program) (t:TypeId) (a:V) (H:List O):R:=
 match a with
 |.one c=>match tAg P t,zv5 H c with
  |some (g,n),some (row,off,p)=>⟨p/\off+wd g n<=row.length,True,ldV g n row off,H⟩
  |_,_=>.bad
 |_=>.bad
def zy3 (P:Program) (t:TypeId) (a x:V) (H:List O):R:=
 match a,x.cs,tAg P t with
 |.one (.ref id ver r off),some cs,some (_,n)=>match H[id]? with
  |some (.cells cur sz rows)=>⟨ver=cur/\r<rows.length/\off+cs.length<=(rows.getD r []).length/\cs.length=n,True,.un,
    H.set id (.cells cur sz (rows.set r (zen (rows.getD r []) off cs)))⟩
  |_=>.bad
 |_,_,_=>.bad
def newF (cs:List C) (H:List O):R:=.ok (.one (.ref H.length 0 0 0)) (H++[.cells 0 cs.length [cs]])
def zla (P:Program) (t:TypeId) (x i:V) (H:List O):R:=
 match i with
 |.one (.int _ i)=>match tAr P t with
  |some (n,_,s)=>match x with
   |.one (.ref id ver r off)=>match H[id]? with
    |some (.cells cur _ _)=>⟨ver=cur/\0<=i/\i<n,True,.one (.ref id ver r (off+i.toNat*s)),H⟩
    |_=>.bad
   |.one (.iptr row off)=>⟨0<=i/\i<n,True,.one (.iptr row (off+i.toNat*s)),H⟩
   |_=>.bad
  |none=>match tSl P t with
   |some (_,s,_)=>match x with
    |.one (.sl rows)=>⟨0<=i/\i<rows.length/\(nth rows i).length=s,True,.one (.iptr (nth rows i) 0),H⟩
    |.one (.slf rows)=>⟨0<=i/\i<rows.length/\(nth rows i).length=s,True,.one (.iptr (nth rows i) 0),H⟩
    |.one (.msl id ver lo hi)=>match H[id]? with
     |some (.cells cur sz rows)=>⟨ver=cur/\sz=s/\0<=i/\i<((hi-lo:Nat):Int),True,.one (.ref id ver (lo+i.toNat) 0),H⟩
     |_=>.bad
    |_=>.bad
   |none=>.bad
 |_=>.bad
def zxn (P:Program) (t:TypeId) (x i:V) (H:List O):R:=
 match x,i with
 |.one (.str s),.one (.int _ i)=>if zy1 P t then⟨0<=i/\i<s.length,True,.one (.int .u8 (s.getD i.toNat 0).toNat),H⟩else .bad
 |.agg cs,.one (.int _ i)=>match tAr P t with
  |some (n,e,s)=>match tAg P e with
   |some (g,m)=>⟨0<=i/\i<n/\i.toNat*s+wd g m<=cs.length,True,ldV g m cs (i.toNat*s),H⟩
   |none=>.bad
  |none=>.bad
 |_,_=>.bad
def ze9 (P:Program) (t:TypeId) (x:V) (f:Nat) (H:List O):R:=
 match tFd P t f,x with
 |some (o,_,n),.one (.ref id ver r off)=>match H[id]? with
  |some (.cells cur _ _)=>⟨ver=cur/\n≠0,True,.one (.ref id ver r (off+o)),H⟩
  |_=>.bad
 |some (o,_,n),.one (.iptr row off)=>⟨n≠0,True,.one (.iptr row (off+o)),H⟩
 |_,_=>.bad
def zxs (P:Program) (t:TypeId) (x:V) (f:Nat) (H:List O):R:=
 match tFd P t f,x with
 |some (o,g,n),.agg cs=>⟨o+wd g n<=cs.length,True,ldV g n cs o,H⟩
 |_,_=>.bad
def zm8 (H:List O):C->Option (List (List C)×Prop)
 |.sl rows=>some (rows,True)
 |.slf rows=>some (rows,True)
 |.str s=>some (s.map fun b=>[.int .u8 b.toNat],True)
 |.msl id ver lo hi=>match H[id]? with
  |some (.cells cur _ rows)=>some ((rows.take hi).drop lo,ver=cur)
  |_=>none
 |_=>none
def yek (pos:String):Bool:=mkPosL.contains pos
def znl (P:Program) (pl:Bool) (t:TypeId) (l c:V) (H:List O):R:=
 match l,c,tSl P t with
 |.one (.int _ l),.one (.int _ c),some (e,s,b)=>match tZ P e with
  |some z=>match z.cs with
   |some zs=>match pl with
    |true=>⟨0<=l/\l<=c/\b*c<=281474976710656/\c<=lim/\zs.length=s,True,.one (.sl (List.replicate l.toNat zs)),H⟩
    |false=>⟨0<=l/\l<=c/\b*c<=281474976710656/\c<=lim/\zs.length=s,True,.one (.msl H.length 0 0 l.toNat),H++[.cells 0 s (List.replicate l.toNat zs)]⟩
   |none=>.bad
  |none=>.bad
 |_,_,_=>.bad
def bnd (d:Nat):Option V->Option Int
 |none=>some d
 |some (.one (.int _ n))=>some n
 |_=>none
def zln (P:Program) (t:TypeId) (rows:List (List C)) (lo hi I:Option V) (H:List O):R:=
 match tSl P t,I,bnd 0 lo,bnd rows.length hi with
 |some (_,s,_),none,some l,some h=>⟨0<=l/\l<=h/\h<=rows.length/\(∀r∈rows,r.length=s),True,.one (.sl ((rows.take h.toNat).drop l.toNat)),H⟩
 |some (_,s,_),some m,some l,some h=>match bnd 0 (some m)with
  |some m=>⟨0<=l/\l<=h/\h=m/\m<=rows.length/\(∀r∈rows,r.length=s),True,.one (.slf ((rows.take h.toNat).drop l.toNat)),H⟩
  |none=>.bad
 |_,_,_,_=>.bad
def tPa (P:Program) (t:TypeId):Option Nat:=
 match tAr P t with
 |some (n,_,s)=>if s=1 then some n else none
 |none=>none
def z0a (P:Program) (t:TypeId) (x:V) (lo hi I:Option V) (H:List O):R:=
 match x with
 |.one (.str s)=>if zy1 P t then(match I,bnd 0 lo,bnd s.length hi with
    |none,some l,some h=>⟨0<=l/\l<=h/\h<=s.length,True,.one (.str ((s.take h.toNat).drop l.toNat)),H⟩
    |_,_,_=>.bad)
  else .bad
 |.one (.sl rows)=>zln P t rows lo hi I H
 |.one (.slf rows)=>zln P t rows lo hi I H
 |.one (.iptr row off)=>match tPa P t,I,bnd 0 lo with
  |some n,none,some l=>match bnd n hi with
   |some h=>⟨0<=l/\l<=h/\h<=n/\off+n<=row.length/\n<=lim,True,.one (.sl (((((row.drop off).take n).map fun c=>[c]).take h.toNat).drop l.toNat)),H⟩
   |none=>.bad
  |_,_,_=>.bad
 |.one (.ref id ver 0 off)=>match tPa P t,I,bnd 0 lo,H[id]? with
  |some n,none,some l,some (.cells cur sz [row])=>match bnd n hi with
   |some h=>⟨ver=cur/\0<=l/\l<=h/\h<=n/\off+n<=row.length/\n<=lim,True,.one (.sl (((((row.drop off).take n).map fun c=>[c]).take h.toNat).drop l.toNat)),H.set id .dead⟩
   |none=>.bad
  |_,_,_,_=>.bad
 |.one (.msl id ver l0 h0)=>match tSl P t,I,bnd 0 lo,bnd (h0-l0) hi,H[id]? with
  |some (_,s,_),none,some l,some h,some (.cells cur sz _)=>⟨ver=cur/\sz=s/\0<=l/\l<=h/\h<=((h0-l0:Nat):Int),True,.one (.msl id ver (l0+l.toNat) (l0+h.toNat)),H⟩
  |_,_,_,_,_=>.bad
 |_=>.bad
def lenF (P:Program) (t:TypeId) (x:V) (H:List O):R:=
 match x with
 |.one (.str s)=>if zy1 P t then⟨True,s.length<=lim,.one (.int .i64 s.length),H⟩else .bad
 |.one (.sl rows)=>match tSl P t with|some _=>⟨True,rows.length<=lim,.one (.int .i64 rows.length),H⟩|none=>.bad
 |.one (.slf rows)=>match tSl P t with|some _=>⟨True,rows.length<=lim,.one (.int .i64 rows.length),H⟩|none=>.bad
 |.one (.msl id ver lo hi)=>match tSl P t,H[id]? with
  |some _,some (.cells cur _ rows)=>⟨ver=cur,hi<=lim/\hi<=rows.length/\lo<=hi,.one (.int .i64 ((hi-lo:Nat):Int)),H⟩
  |_,_=>.bad
 |_=>match tAr P t with
  |some (n,_,_)=>⟨n<=lim,True,.one (.int .i64 n),H⟩
  |none=>.bad
def ztg (P:Program) (ts:Array TypeId) (s x:V) (H:List O):R:=
 match ts[0]?,ts[1]? with
 |some t,some I=>match tSl P t,(tSl P I).isSome||zy1 P I,x with
  |some (e,sz,b),true,.one U=>match tZ P e,zm8 H U with
   |some z,some (new,p)=>match z.cs with
    |some zs=>match s with
     |.one (.slf old)=>match new.isEmpty with
      |true=>⟨p/\zs.length=sz/\0<sz,True,.one (.slf old),H⟩
      |false=>⟨p/\(old.length+new.length)*b<=140737488355328/\old.length+new.length<=lim/\zs.length=sz/\0<sz/\(∀r∈new,r.length=sz)/\(∀r∈old,r.length=sz),True,
       .one (.msl H.length 0 0 (old.length+new.length)),H++[.cells 0 sz (old++new)]⟩
     |.one (.msl id ver lo hi)=>match H[id]? with
      |some (.cells cur sz' rows)=>⟨p/\ver=cur/\hi=rows.length/\sz'=sz/\(hi-lo+new.length)*b<=140737488355328/\hi-lo+new.length<=lim/\zs.length=sz/\0<sz/\(∀r∈new,r.length=sz),lo<=hi,
        .one (.msl id (cur+1) 0 (hi-lo+new.length)),H.set id (.cells (cur+1) sz (rows.drop lo++new))⟩
      |_=>.bad
     |_=>.bad
    |none=>.bad
   |_,_=>.bad
  |_,_,_=>.bad
 |_,_=>.bad
def z9p (P:Program) (ts:Array TypeId) (d x:V) (H:List O):R:=
 match ts[0]?,d,x with
 |some t,.one (.msl id ver lo hi),.one I=>match tSl P t,H[id]?,zm8 H I with
  |some (_,s,_),some (.cells cur sz rows),some (src,p)=>
   ⟨p/\ver=cur/\sz=s/\0<s/\(∀r∈src,r.length=s),True,.one (.int .i64 (min src.length (hi-lo):Nat)),H.set id (.cells cur sz (zen rows lo (src.take (hi-lo))))⟩
  |_,_,_=>.bad
 |_,_,_=>.bad
def z1z (P:Program) (ts:Array TypeId) (x:V) (H:List O):R:=
 match ts[0]?,x with
 |some t,.one (.msl id ver lo hi)=>match tSl P t,H[id]? with
  |some (e,s,_),some (.cells cur sz rows)=>match tZ P e with
   |some z=>match z.cs with
    |some zs=>⟨ver=cur/\sz=s/\0<s/\zs.length=s,True,.tup [],H.set id (.cells cur sz (zen rows lo (List.replicate (hi-lo) zs)))⟩
    |none=>.bad
   |none=>.bad
  |_,_=>.bad
 |_,_=>.bad
def biF (P:Program) (b:Builtin) (ts:Array TypeId) (args:List V) (H:List O):R:=
 match b,args with
 |.len,[x]=>match ts[0]? with|some t=>lenF P t x H|none=>.bad
 |.append,[s,x]=>ztg P ts s x H
 |.copy,[d,x]=>z9p P ts d x H
 |.clear,[x]=>z1z P ts x H
 |.max,[.one (.int k a),.one (.int I b)]=>if k=I then .ok (.one (.int k (if b>a then b else a))) H else .bad
 |.min,[.one (.int k a),.one (.int I b)]=>if k=I then .ok (.one (.int k (if b<a then b else a))) H else .bad
 |_,_=>.bad
def zli (keep:Bool) (ids:List Nat):Nat->List O->List O
 |_,[]=>[]
 |i,o::r=>(if ids.contains i=keep then o else .dead)::zli keep ids (i+1) r
def z6a (pos:String):Bool:=fzPosL.contains pos
def zon:List C->List Nat
 |[]=>[]
 |c::r=>match c with
  |.msl id _ _ _=>id::zon r
  |_=>zon r
def fzC (H:List O) (c:C):C:=match c with
 |.msl id ver lo hi=>match H[id]? with
  |some (.cells _ _ rows)=>.sl ((rows.take hi).drop lo)
  |_=>.msl id ver lo hi
 |.slf rows=>.sl rows
 |c=>c
def fzPc (H:List O) (c:C):Prop:=match c with
 |.msl id ver _ _=>match H[id]? with
  |some (.cells cur _ _)=>ver=cur
  |_=>False
 |_=>True
def fzP (H:List O):List C->Prop
 |[]=>True
 |c::r=>fzPc H c/\fzP H r
def andR (p:Prop) (r:R):R:=match r with|⟨q,f,v,h⟩=>⟨p/\q,f,v,h⟩
def zyt (P:Program) (ts:Array TypeId) (s x:V) (H:List O):R:=match x with
 |.one (.msl id _ _ _)=>match H[id]? with
  |some (.cells cur sz [row])=>andR ((zon row).contains id=false/\fzP H row) (ztg P ts s x ((zli false (zon row) 0 H).set id (.cells cur sz [row.map (fzC H)])))
  |_=>.bad
 |_=>.bad
def biZ (P:Program) (z:Bool) (b:Builtin) (ts:Array TypeId) (args:List V) (H:List O):R:=match z with
 |false=>biF P b ts args H
 |true=>match b,args with
  |.append,[s,x]=>zyt P ts s x H
  |_,_=>.bad
def z9j (place:Nat->Option (Nat×Nat)) (cells:List C):List (Nat×V)->Option (List C)
 |[]=>some cells
 |(i,x)::rest=>
  match place i,x.cs with
  |some (off,size),some cs=>if cs.length≠size\/off+cs.length>cells.length then none else z9j place (zen cells off cs) rest
  |_,_=>none
def tPl (P:Program) (t:TypeId):Option (Nat->Option (Nat×Nat)):=
 match P.underlying t with
 |some (.array _ e)=>match P.info? e with|some i=>some fun k=>some (k*i.size,i.size)|none=>none
 |some (.struct fs)=>match fs.toList.mapM (fun f=>(P.info? f.type).map fun i=>(f.offset,i.size))with
  |some I=>some fun k=>I[k]?
  |none=>none
 |_=>none
def zx1 (P:Program) (t:TypeId) (parts:List (Nat×V)) (H:List O):R:=
 match tPl P t,tZ P t with
 |some pl,some z=>match z.cs with
  |some zs=>match z9j pl zs parts with
   |some cs=>.ok (.agg cs) H
   |none=>.bad
  |none=>.bad
 |_,_=>.bad
def z9i (sz:Nat) (rows:List (List C)):List (Nat×V)->Option (List (List C))
 |[]=>some rows
 |(i,x)::rest=>
  match x.cs with
  |some cs=>if cs.length≠sz\/rows.length<=i then none else z9i sz (rows.set i cs) rest
  |none=>none
def C.unf:C->C
 |.slf rows=>.sl rows
 |c=>c
def C.plain:C->Bool
 |.int .. =>true
 |.bool _=>true
 |.str _=>true
 |.sl _=>true
 |.slf _=>true
 |.nilfn=>true
 |.nilif=>true
 |.nilp=>true
 |.nilm=>true
 |_=>false
def zuj (rows:List (List C)):List (List C):=rows.map fun r=>r.map C.unf
def z4c (rows:List (List C)):Bool:=rows.all fun r=>r.all C.plain
def yf5 (pos:String):Bool:=ownLitL.contains pos
def znt (P:Program) (own:Bool) (t:TypeId) (n:Nat) (parts:List (Nat×V)) (H:List O):R:=
 match tSl P t with
 |some (e,s,_)=>match tZ P e with
  |some z=>match z.cs with
   |some zs=>match z9i s (List.replicate n zs) parts with
    |some rows=>match z4c rows&& !own with
     |true=>⟨n*s<=16777216/\0<n*s/\zs.length=s/\n<=lim,True,.one (.slf (zuj rows)),H⟩
     |false=>⟨n*s<=16777216/\0<n*s/\zs.length=s/\n<=lim,True,.one (.msl H.length 0 0 n),H++[.cells 0 s rows]⟩
    |none=>.bad
   |none=>.bad
  |none=>.bad
 |none=>.bad
def zxl:C->C->Option Bool
 |.int k a,.int I b=>if k=I then some (decide (a=b))else none
 |.str a,.str b=>some (decide (a=b))
 |_,_=>none
def xnot (k:IntKind) (n:Int):Int:=k.wrap (BitVec.ofInt k.bits (if k.signed then-1 else k.max)^^^BitVec.ofInt k.bits n).toNat
def unF (op:UnOp) (x:V) (H:List O):R:=
 match op,x with
 |.not,.one (.bool b)=>.ok (.one (.bool (!b))) H
 |.neg,.one (.int k n)=>.ok (.one (.int k (k.wrap (0-n)))) H
 |.xor,.one (.int k n)=>.ok (.one (.int k (xnot k n))) H
 |_,_=>.bad
def zwd (b:List UInt8):List Int:=b.map fun x=>(x.toNat:Int)
def zog (b:List UInt8):List (List C):=(zwd b).map fun n=>[.int .u8 n]
def zvs (P:Program) (s d:TypeId) (b:List UInt8) (H:List O):R:=match P.underlying s,P.underlying d with
 |some _,some (.slice e)=>match P.underlying e with
  |some (.int .u8)=>.ok (.one (.msl H.length 0 0 (zwd b).length)) (H++[.cells 0 1 (zog b)])
  |_=>.bad
 |some _,some .string=>.ok (.one (.str b)) H
 |_,_=>.bad
def z00:List C->Bool
 |[.int .u8 _]=>true
 |_=>false
def z2m:List C->UInt8
 |[.int .u8 n]=>UInt8.ofNat n.toNat
 |_=>0
def zmh (P:Program) (s d:TypeId) (c:C) (H:List O):R:=match P.underlying s,P.underlying d,zm8 H c with
 |some (.slice e),some .string,some (rows,p)=>match P.underlying e with
  |some (.int .u8)=>⟨p/\rows.all z00=true,True,.one (.str (rows.map z2m)),H⟩
  |_=>.bad
 |_,_,_=>.bad
def zvx (P:Program) (s d:TypeId) (id ver lo hi:Nat) (H:List O):R:=match P.underlying d with
 |some .string=>zmh P s d (.msl id ver lo hi) H
 |some (.slice e)=>match P.underlying e,H[id]?,decide (s=d)with
  |some (.int .u8),some (.cells cur sz rows),true=>⟨ver=cur/\lo=0/\0<rows.length,True,.one (.msl id ver lo hi),H⟩
  |_,_,_=>.bad
 |_=>.bad
def z6j (P:Program) (s d:TypeId) (x:V) (H:List O):R:=
 match x with
 |.one (.int _ n)=>match tK P d with
  |some k=>if(P.underlying s).isSome then .ok (.one (.int k (k.wrap n))) H else .bad
  |none=>.bad
 |.one (.str b)=>zvs P s d b H
 |.one (.sl rows)=>zmh P s d (.sl rows) H
 |.one (.slf rows)=>zmh P s d (.slf rows) H
 |.one (.msl id ver lo hi)=>zvx P s d id ver lo hi H
 |_=>.bad
def z9l (pos:String):Bool:=cvPosL.contains pos
def z6i (P:Program) (z:Bool) (s d:TypeId) (x:V) (H:List O):R:=match z with
 |false=>z6j P s d x H
 |true=>match x with
  |.one (.str b)=>(match P.underlying s,P.underlying d with
   |some _,some (.slice e)=>(match P.underlying e with|some (.int .u8)=>.ok (.one (.sl (zog b))) H|_=>.bad)
   |_,_=>.bad)
  |_=>.bad
def z2r (c a b:V) (H:List O):R:=
 match c,a,b with
 |.one (.bool c),.one (.bool x),.one (.bool y)=>.ok (.one (.bool (if c then x else y))) H
 |.one (.bool true),x,_=>.ok x H
 |.one (.bool false),_,y=>.ok y H
 |_,_,_=>.bad
def zwf:List V->Option (List C)
 |[]=>some []
 |.one c::r=>match zwf r with|some cs=>some (c::cs)|none=>none
 |_::_=>none
def tMp (P:Program) (t:TypeId):Option (TypeId×Option IntKind×TypeId):=
 match P.underlying t with
 |some (.map k e)=>match P.underlying k with
  |some .string=>some (k,none,e)
  |some (.int kd)=>some (k,some kd,e)
  |_=>none
 |_=>none
def keyB (kd:Option IntKind):C->Bool
 |.str _=>match kd with|none=>true|_=>false
 |.int k _=>match kd with|some I=>decide (k=I)|none=>false
 |_=>false
def z1c (k:C):List (C×C)->Option (Option C)
 |[]=>some none
 |(I,v)::r=>match zxl k I with
  |some true=>some (some v)
  |some false=>z1c k r
  |none=>none
def mput (k v:C):List (C×C)->Option (List (C×C))
 |[]=>some [(k,v)]
 |(I,U)::r=>match zxl k I with
  |some true=>some ((k,v)::r)
  |some false=>match mput k v r with|some l=>some ((I,U)::l)|none=>none
  |none=>none
def z0r (z:C) (ok:Bool) (H:List O):Option (Option C)->R
 |some (some v)=>match ok with|true=>.ok (.tup [.one v,.one (.bool true)]) H|false=>.ok (.one v) H
 |some none=>match ok with|true=>.ok (.tup [.one z,.one (.bool false)]) H|false=>.ok (.one z) H
 |none=>.bad
def zsc (P:Program) (t:TypeId) (m k:V) (ok:Bool) (H:List O):R:=
 match tMp P t,m,k with
 |some (_,kd,e),.one (.mp id),.one I=>match H[id]?,tZ P e,keyB kd I with
  |some (.map es),some (.one z),true=>z0r z ok H (z1c I es)
  |_,_,_=>.bad
 |_,_,_=>.bad
def zwx (P:Program) (t:TypeId) (m k v:V) (H:List O):R:=
 match tMp P t,m,k,v with
 |some (_,kd,_),.one (.mp id),.one I,.one vc=>match H[id]?,keyB kd I with
  |some (.map es),true=>match mput I vc es with
   |some U=>⟨True,True,.un,H.set id (.map U)⟩
   |none=>.bad
  |_,_=>.bad
 |_,_,_,_=>.bad
def zr9 (P:Program) (t:TypeId) (x:V) (H:List O):R:=match tAg P t,x with
 |some (true,_),.agg cs=>.ok (.one (.ifc t cs)) H
 |_,_=>.bad
def z1a (P:Program) (a:TypeId) (ok:Bool) (H:List O):R:=match ok,tZ P a with
 |true,some z=>.ok (.tup [z,.one (.bool false)]) H
 |_,_=>.bad
def z2z (ok:Bool) (cs:List C) (H:List O):R:=.ok (if ok then .tup [.agg cs,.one (.bool true)]else .agg cs) H
def zjd (P:Program) (x:V) (a:TypeId) (ok:Bool) (H:List O):R:=match tAg P a,x with
 |some (true,_),.one (.ifc t cs)=>if t=a then z2z ok cs H else z1a P a ok H
 |some (true,_),.one .nilif=>z1a P a ok H
 |_,_=>.bad
def zdu (P:Program) (pos:String) (op:Op) (ρ:Operand->V) (H:List O):R:=
 match op with
 |.move x|.assign x=>.ok (ρ x) H
 |.pick c a b=>z2r (ρ c) (ρ a) (ρ b) H
 |.alloc t=>match tZ P t with|some z=>(match z.cs with|some zs=>newF zs H|none=>.bad)|none=>.bad
 |.box _ x=>match(ρ x).cs with|some cs=>newF cs H|none=>.bad
 |.load t a=>zuw P t (ρ a) H
 |.store t a x=>zy3 P t (ρ a) (ρ x) H
 |.nilCheck x=>match ρ x with
  |.one (.ref a b c d)=>(match H[a]? with|some (.cells cur _ _)=>⟨b=cur,True,.one (.ref a b c d),H⟩|_=>.bad)
  |.one (.iptr r o)=>.ok (.one (.iptr r o)) H
  |_=>.bad
 |.binOp op t x y _=>binF P op t (ρ x) (ρ y) H
 |.unOp op _ x=>unF op (ρ x) H
 |.convert s d x=>z6i P (z9l pos) s d (ρ x) H
 |.makeFunc (.func f) first cap=>if first.size=0 then(match zwf (cap.toList.map ρ)with|some cs=>.ok (.one (.fn f cs)) H|none=>.bad)else .bad
 |.makeMap _ none=>.ok (.one (.mp H.length)) (H++[.map []])
 |.makeInterface t x=>zr9 P t (ρ x) H
 |.typeAssert x _ a ok=>zjd P (ρ x) a ok H
 |.lookup t x k ok=>zsc P t (ρ x) (ρ k) ok H
 |.mapUpdate t m k x=>zwx P t (ρ m) (ρ k) (ρ x) H
 |.insert t m k x=>zwx P t (ρ m) (ρ k) (ρ x) H
 |.makeSlice t l c=>znl P (yek pos) t (ρ l) (ρ c) H
 |.slice t x lo hi I=>if I.isSome&&hi.isNone then .bad else z0a P t (ρ x) (lo.map ρ) (hi.map ρ) (I.map ρ) H
 |.fieldAddr t x f=>ze9 P t (ρ x) f H
 |.field t x f=>zxs P t (ρ x) f H
 |.indexAddr t x i=>zla P t (ρ x) (ρ i) H
 |.index t x i=>zxn P t (ρ x) (ρ i) H
 |.extract x i=>match ρ x with|.tup vs=>(match vs[i]? with|some v=>.ok v H|none=>.bad)|_=>.bad
 |.build t parts=>zx1 P t (parts.toList.map fun p=>(p.1,ρ p.2)) H
 |.buildSlice t n parts=>znt P (yf5 pos) t n (parts.toList.map fun p=>(p.1,ρ p.2)) H
 |.call {callee:=.builtin b,args,argTypes}=>biZ P (z6a pos) b argTypes (args.toList.map ρ) H
 |_=>.bad
end Go.Lz

end
section
namespace Go.Lz
theorem ymk (k:IntKind):k.min=loK k:=by cases k<;>rfl
theorem ymz (k:IntKind):k.max=hiK k:=by cases k<;>rfl
theorem zoe (k:IntKind) (n:Int):k.min<=k.wrap n/\k.wrap n<=k.max:=by
 cases k<;>simp[IntKind.wrap,IntKind.min,IntKind.max,IntKind.signed,IntKind.bits]<;>omega
theorem C.ofV_rel (E:Env) {v:Value} {c:C} (h:C.ofV v=some c):CRel E c v:=by
 unfold C.ofV at h;split at h
 ·split at h
  ·simp at h;subst h;rename_i I;exact .int (by rw[ymk,ymz];exact I)
  ·simp at h
 ·simp at h;subst h;exact .bool
 ·split at h
  ·simp at h;subst h;rename_i I;exact .str rfl I
  ·simp at h
 ·simp at h;subst h
  exact .slf (.sl (fun _ _=>undef) 0 rfl (Wae _) (Waf _) (by simp) (by simp) (by simp[at2])) ⟨_,rfl⟩
 ·simp at h;subst h;exact .nilp
 ·simp at h;subst h;exact .nilm
 ·simp at h;subst h;exact .nilfn
 ·simp at h;subst h;exact .nilif
 ·simp at h
theorem yem {vs:List Value} {l:List C} (h:vs.mapM C.ofV=some l):vs.length=l.length/\∀(j:Nat) (c:C),l[j]? =some c->∃v,vs[j]? =some v/\C.ofV v=some c:=by
 induction vs generalizing l with
 |nil=>simp at h;subst h;simp
 |cons v vs U=>
  simp only[WbT,Option.pure_def,Option.bind_eq_bind]at h
  cases hv:C.ofV v with
  |none=>simp[hv]at h
  |some c=>
   cases hr:vs.mapM C.ofV with
   |none=>simp[hv,hr]at h
   |some r=>
    simp[hv,hr]at h;subst h;obtain⟨h1,h2⟩:=U hr;refine⟨by simp[h1],fun j c' I=>?_⟩
    cases j with
    |zero=>simp at I;subst I;exact⟨v,rfl,hv⟩
    |succ j=>simp at I;simpa using h2 j c' I
theorem V.ofV_rel (E:Env) (v:Value):VRel E (V.ofV v) v:=by
 unfold V.ofV;split
 ·rename_i cs
  split
  ·rename_i l hl
   obtain⟨h1,h2⟩:=yem hl;refine .agg (by simpa using h1) fun j c I=>?_;obtain⟨v,hv,hc⟩:=h2 j c I
   have:cs[j]? =some v:=by simpa using hv
   simp only[Wah,this,WaI];exact C.ofV_rel E hc
  ·exact .un
 ·split
  ·rename_i c hc;exact .one (C.ofV_rel E hc)
  ·exact .un
def Good (P:Program) (E:Env) (s:Sem Value) (r:R):Prop:=
 r.pre->r.fact/\∃v E',s.run P E.w=.ok v E'.w/\E'.H=r.h/\VRel E' r.v v/\HRel E'/\Trans E E'
theorem Good.bad {P:Program} {E:Env} {s:Sem Value}:Good P E s .bad:=fun h=>h.elim
theorem Good.same {P:Program} {E:Env} {s:Sem Value} {r:R} (hE:HRel E) (h:r.pre->r.fact/\∃v,s.run P E.w=.ok v E.w/\r.h=E.H/\VRel E r.v v):Good P E s r:=fun I=>
 let⟨hf,v,h1,h2,h3⟩:=h I
 ⟨hf,v,E,h1,h2.symm,h3,hE,Trans.refl E⟩
theorem Good.ok {P:Program} {E:Env} {s:Sem Value} {x:V} (hE:HRel E) (h:∃v,s.run P E.w=.ok v E.w/\VRel E x v):Good P E s (.ok x E.H):=
 .same hE fun _=>⟨trivial,by obtain⟨v,h1,h2⟩:=h;exact⟨v,h1,rfl,h2⟩⟩
theorem zti (b o n:Nat):(⟨b,o,none⟩:Addr).add n=⟨b,o+n,none⟩:=by
 unfold Addr.add;split<;>simp_all
def rowIn (E:Env) (row:List C) (b o:Nat):Prop:=∀(j:Nat) (c:C),row[j]? =some c->∃v,E.w.cell? ⟨b,o+j,none⟩=some v/\CRel E c v
theorem zzt {P:Program} {t:TypeId} {g:Bool} {n:Nat} (h:tAg P t=some (g,n)):
  ∃d i,P.underlying t=some d/\P.info? t=some i/\i.size=n/\∀(w:World),(isAgg t).run P w=.ok g w:=by
 unfold tAg at h;split at h
 ·rename_i fs i hu hi
  simp at h;exact⟨_,i,hu,hi,h.2,fun w=>by simp[isAgg,run_underlying hu,<-h.1]⟩
 ·rename_i I e i hu hi
  simp at h;exact⟨_,i,hu,hi,h.2,fun w=>by simp[isAgg,run_underlying hu,<-h.1]⟩
 ·rename_i d i h1 h2 hu hi
  simp at h;refine⟨_,i,hu,hi,h.2,fun w=>?_⟩
  cases d<;>first
   |exact(h1 _ rfl).elim
   |exact(h2 _ _ rfl).elim
   |simp[isAgg,run_underlying hu,<-h.1]
 ·simp at h
theorem zeh {P:Program} {t:TypeId} {i:TypeInfo} (h:P.info? t=some i) (w:World):(sizeOf t).run P w=.ok i.size w:=by simp[sizeOf,typeInfo,h]
theorem ybn {P:Program} {E:Env} {t:TypeId} {g:Bool} {n:Nat} (hg:tAg P t=some (g,n)) {row:List C} {b o off:Nat} (hr:rowIn E row b o) (hn:off+wd g n<=row.length):
  ∃v,(loadVar t ⟨b,o+off,none⟩).run P E.w=.ok v E.w/\VRel E (ldV g n row off) v:=by
 obtain⟨d,i,hu,hi,aa,ha⟩:=zzt hg
 have pick:∀j,j<row.length->∃v,E.w.cell? ⟨b,o+j,none⟩=some v/\∀c,row[j]? =some c->CRel E c v:=by
  intro j I;obtain⟨v,h1,h2⟩:=hr j row[j] (by simp[I]);exact⟨v,h1,fun c hc=>by simp[I]at hc;exact hc▸h2⟩
 cases g with
 |false=>
  simp only[wd]at hn
  have U:off<row.length:=by simp at hn;omega
  obtain⟨v,h1,h2⟩:=pick off U;refine⟨v,by simp[loadVar,ha,h1],?_⟩;simp only[ldV,WaD,if_false];exact .one (h2 _ (by simp[List.getD_eq_getElem?_getD,U]))
 |true=>
  simp only[wd,if_true]at hn
  have:∀j,∃v,j<n->(E.w.cell? ⟨b,o+off+j,none⟩=some v/\∀c,row[off+j]? =some c->CRel E c v):=by
   intro j
   by_cases I:j<n
   ·obtain⟨v,h1,h2⟩:=pick (off+j) (by omega)
    exact⟨v,fun _=>⟨by rw[Waz];exact h1,h2⟩⟩
   ·exact⟨undef,fun h=>(I h).elim⟩
  let f:Nat->Value:=fun j=>Classical.choose (this j)
  have hf:∀j,j<n->(E.w.cell? ⟨b,o+off+j,none⟩=some (f j)/\∀c,row[off+j]? =some c->CRel E c (f j)):=fun j=>WaW (this j)
  have hl:=run_loadCells (P:=P) E.w ⟨b,o+off,none⟩ n f (fun j I=>by rw[zti];exact(hf j I).1)
  refine⟨.agg ((List.range n).map f).toArray,?_,?_⟩
  ·simp[loadVar,ha,zeh hi,aa,hl]
  ·simp only[ldV,if_true]
   refine .agg (by simp;omega) fun j c I=>?_
   have U:j<n:=by
    have:=(Wag.1 I).1
    simp at this;omega
   have hc:row[off+j]? =some c:=by
    rw[WaQ]at I;simp[U]at I;exact I
   simp[Wah,U];exact(hf j U).2 c hc
theorem zxa {E:Env} {row:List C} {off:Nat} {v:Value} (h:CRel E (.iptr row off) v):∃b o,v=.pointer (some ⟨b,o+off,none⟩)/\rowIn E row b o:=by
 cases h with
 |iptr vals he hb hc hv=>exact⟨_,_,he,fun j c I=>⟨vals j,hc j c I,hv j c I⟩⟩
theorem z3m {rows:List (List C)} {r j:Nat} {c:C} (h:(rows.getD r [])[j]? =some c):at2 rows r j=some c:=by
 simp only[List.getD_eq_getElem?_getD]at h
 cases hr:rows[r]? with
 |none=>simp[hr]at h
 |some x=>simp[hr]at h;simp[at2,hr,h]
theorem ORel.rowIn {E:Env} (hE:HRel E) {id cur sz:Nat} {rows:List (List C)} (ho:E.H[id]? =some (.cells cur sz rows)) (r:Nat):
  rowIn E (rows.getD r []) (E.bd id).blk ((E.bd id).off+r*sz):=by
 obtain⟨h3,h4,h5,I⟩:=hE.obj id _ ho;intro j c U
 have aa:r<rows.length:=by
  have:=z3m U
  simp only[at2,Wbk]at this;obtain⟨x,hx,_⟩:=this;exact(Wag.1 hx).1
 obtain⟨arr,ty,h1,h2,I⟩:=I (by omega);obtain⟨v,hv,hr⟩:=I r j c (z3m U);refine⟨v,?_,hr⟩;rw[h1.cell?];simpa [Waz]using hv
theorem z7e {E:Env} (hE:HRel E) {c:C} {v:Value} {row:List C} {off:Nat} {p:Prop} (hc:CRel E c v) (h:zv5 E.H c=some (row,off,p)) (hp:p):
  ∃b o,v=.pointer (some ⟨b,o+off,none⟩)/\rowIn E row b o:=by
 cases c<;>simp only[zv5]at h<;>try (cases h;done)
 case iptr r o=>
  cases h;exact zxa hc
 case ref id ver r o=>
  split at h
  ·rename_i cur sz rows I
   cases h
   cases hc with
   |ref hid U hh=>
    obtain⟨_,h2⟩:=hh cur sz rows I;refine⟨(E.bd id).blk,(E.bd id).off+r*sz,?_,ORel.rowIn hE I r⟩;rw[h2 hp.1,Waz]
  ·cases h
theorem yeu {P:Program} {E:Env} (hE:HRel E) {t:TypeId} {x:V} {v:Value} (U:VRel E x v):Good P E (Instr.loadAt t v) (zuw P t x E.H):=by
 unfold zuw;split
 ·rename_i c
  split
  ·rename_i g n row off p hg hr
   refine .same hE fun⟨hp,hn⟩=>⟨trivial,?_⟩
   cases U with
   |one hc=>
    obtain⟨b,o,rfl,I⟩:=z7e hE hc hr hp;obtain⟨u,h1,h2⟩:=ybn hg I hn;exact⟨u,by simpa [Instr.loadAt,Instr.sureAddr]using h1,rfl,h2⟩
  ·exact .bad
 ·exact .bad
end Go.Lz

end
section
namespace Go.Lz
def GoodU (P:Program) (E:Env) (s:Sem Unit) (r:R):Prop:=
 r.pre->r.fact/\r.v=.un/\∃E',s.run P E.w=.ok () E'.w/\E'.H=r.h/\HRel E'/\Trans E E'
theorem GoodU.bad {P:Program} {E:Env} {s:Sem Unit}:GoodU P E s .bad:=fun h=>h.elim
theorem at2_some {rows:List (List C)} {i j:Nat} {c:C}:at2 rows i j=some c↔∃r,rows[i]? =some r/\r[j]? =some c:=by
 simp[at2,Wbk]
theorem zj5 {α:Type} (row:List α) (off:Nat) (cs:List α) (h:off+cs.length<=row.length) (j:Nat):
  (zen row off cs)[j]? =if off<=j/\j<off+cs.length then cs[j-off]? else row[j]? :=by
 unfold zen;rw[Wbl,Wbm]
 have h1:(row.take off).length=off:=by simp;omega
 rw[h1];split
 ·rename_i I
  rw[if_neg (by omega),WaQ,if_pos I]
 ·rename_i I
  rw[Wbm];split
  ·rw[if_pos (by omega)]
  ·rw[if_neg (by omega),Wa0]
   congr 1;omega
theorem ziq {α:Type} (row:List α) (off:Nat) (cs:List α) (h:off+cs.length<=row.length):(zen row off cs).length=row.length:=by
 simp[zen];omega
theorem RowAt.setRow {w:World} {b:Nat} {arr cs:Array Value} {ty:TypeId} (h:RowAt w b arr ty) (I:cs.size=arr.size):RowAt (w.setRow b cs) b cs ty:=by
 obtain⟨fz,h,h2⟩:=h;exact⟨fz,setRow_heap w b arr cs ty fz h,by rw[I];exact h2⟩
theorem RowAt.store {P:Program} {g o:Nat} {t:TypeId}:∀(vs:List Value) (i:Nat) (cur:Array Value) (w:World),RowAt w g cur t->o+i+vs.length<=cur.size->(∀v∈vs,v.oneCell'=true)->
  (storeCells ⟨g,o,none⟩ vs i).run P w=.ok () (w.setRow g (cur.toList.take (o+i)++vs++cur.toList.drop (o+i+vs.length)).toArray)
 |[],i,cur,w,I,_,_=>by
  obtain⟨fz,I,_⟩:=I;simp only[storeCells,Wba,Wam,Wbn,WbU,Array.toArray_toList];rw[setRow_self w g cur t fz I];rfl
 |v::rest,i,cur,w,I,hl,h1=>by
  have ae:=I
  obtain⟨fz,I,U⟩:=I
  have hi:o+i<cur.size:=by simp at hl;omega
  have ab:(⟨g,o,none⟩:Addr).add i=⟨g,o+i,none⟩:=by unfold Addr.add;split<;>simp_all
  have aa:w.cell? ⟨g,o+i,none⟩=some cur[o+i]:=by simp[World.cell?,I,hi]
  have ad:w.frozen? ⟨g,o+i,none⟩=false:=by
   obtain⟨lo,ai⟩:=fz;simp only[World.frozen?,I,Bool.and_eq_false_iff,decide_eq_false_iff_not]
   rcases U with U|U
   ·cases U;omega
   ·simp only at U;omega
  have af:(Go.store ((⟨g,o,none⟩:Addr).add i) v).run P w=.ok () (w.setRow g (cur.setIfInBounds (o+i) v)):=by
   rw[ab,run_store P w _ v _ (h1 v (by simp)),aa];simp[ad,setCell_eq_setRow w g (o+i) cur t fz v I]
  have ih:=RowAt.store (P:=P) (o:=o) rest (i+1) (cur.setIfInBounds (o+i) v) (w.setRow g (cur.setIfInBounds (o+i) v)) (ae.setRow (by simp)) (by simp at hl|-;omega) (fun x hx=>h1 x (by simp[hx]))
  simp only[storeCells,Sem.run_bind,af,Result.andThen_ok,ih,setRow_setRow]
  congr 3
  have e:=list_seg_step cur.toList (o+i) v rest (by simp at hl|-;omega)
  simpa [Array.toList_setIfInBounds,Waz]using e
theorem yac {P:Program} {E:Env} (hE:HRel E) {id cur sz:Nat} {rows:List (List C)} (ho:E.H[id]? =some (.cells cur sz rows)) {r off:Nat} (hr:r<rows.length)
  {cs:List C} (aa:off+cs.length<=(rows.getD r []).length) {vs:Array Value} (hn:vs.size=cs.length) (af:∀(j:Nat) (c:C),cs[j]? =some c->∃y,vs[j]? =some y/\CRel E c y):
  ∃E',(storeCells ⟨(E.bd id).blk,(E.bd id).off+(r*sz+off),none⟩ vs.toList).run P E.w=.ok () E'.w/\E'.H=E.H.set id (.cells cur sz (rows.set r (zen (rows.getD r []) off cs)))/\HRel E'/\Trans E E':=by
 obtain⟨h3,h4,h5,h6⟩:=hE.obj id _ ho
 have hcap:(E.bd id).cap≠0:=by omega
 obtain⟨arr,ty,h1,h2,h6⟩:=h6 hcap
 have ab:E.live id (.cells cur sz rows):=hcap
 have al:rows.getD r []=rows[r]:=by simp[List.getD_eq_getElem?_getD,hr]
 have hlen:(rows.getD r []).length=sz:=by rw[al];exact h5 _ (Wap hr)
 rw[hlen]at aa
 have ay:r*sz+sz<=rows.length*sz:=by have:=WaH sz hr;rw[Wbc]at this;exact this
 have aw:rows.length*sz<=(E.bd id).cap*sz:=WaH sz h3
 have hbound:(E.bd id).off+(r*sz+off)+vs.toList.length<=arr.size:=by simp[hn];omega
 have an:∀v∈vs.toList,v.oneCell'=true:=by
  intro v hv;obtain⟨j,hj,ao⟩:=WaV.1 hv
  have ak:j<cs.length:=by simp at hj;omega
  obtain⟨y,hy,hc⟩:=af j cs[j] (by simp[ak])
  have aq:j<vs.size:=by omega
  have:y=v:=by
   simp only[WaR aq,WaP]at hy;rw[<-hy,<-ao,Array.getElem_toList]
  exact this▸hc.cell
 have ai:=RowAt.store (P:=P) (o:=(E.bd id).off+(r*sz+off)) vs.toList 0 arr E.w h1 (by simpa using hbound) an
 simp only[Wbn]at ai
 let I:Array Value:=(arr.toList.take ((E.bd id).off+(r*sz+off))++vs.toList++arr.toList.drop ((E.bd id).off+(r*sz+off)+vs.toList.length)).toArray
 have ad:∀k,I[k]? =if(E.bd id).off+(r*sz+off)<=k/\k<(E.bd id).off+(r*sz+off)+vs.toList.length then vs[k-((E.bd id).off+(r*sz+off))]? else arr[k]? :=by
  intro k
  have:=zj5 arr.toList ((E.bd id).off+(r*sz+off)) vs.toList (by simpa using hbound) k
  simpa [I,zen]using this
 have ae:I.size=arr.size:=by
  have:=ziq arr.toList ((E.bd id).off+(r*sz+off)) vs.toList (by simpa using hbound)
  simpa [I,zen]using this
 obtain⟨t,hh⟩:=zof hE id (.cells cur sz rows) (.cells cur sz (rows.set r (zen (rows.getD r []) off cs))) (E.w.setRow (E.bd id).blk I) (E.bd id) ho (by simp) rfl rfl rfl
  (fun b hb ar=>setRow_other E.w _ b I (ar ab))
  (fun ax sz' av e=>by cases e;exact⟨cur,sz,rows,rfl,Wae _,fun _=>⟨rfl,by simp,rfl⟩⟩) (fun az e=>by cases e) _ rfl (fun _=>.inl ⟨ab,rfl⟩)
 refine⟨_,ai,rfl,hh ?_,t⟩;refine⟨?_,by simpa using h4,?_,fun _=>⟨I,ty,?_,?_,?_⟩⟩
 ·simp only[if_true];simpa using h3
 rotate_left
 ·simp only[if_true];exact h1.setRow ae
 ·simp only[if_true];rw[ae];exact h2
 rotate_left
 ·intro x hx
  rcases WbZ hx with hx|rfl
  ·exact h5 x hx
  ·rw[ziq _ _ _ (by rw[hlen];exact aa),hlen]
 ·intro i j c au
  simp only[if_true];obtain⟨x,hx,U⟩:=at2_some.1 au;rw[Wa9]at hx
  by_cases hi:r=i
  ·subst hi
   simp[hr]at hx;subst hx;rw[zj5 rows[r] off cs (by rw[h5 _ (Wap hr)];exact aa) j]at U;rw[ad]
   by_cases hj:off<=j/\j<off+cs.length
   ·rw[if_pos hj]at U
    rw[if_pos (by simp[hn];omega)];obtain⟨y,hy,hc⟩:=af _ _ U;refine⟨y,?_,hc.trans t⟩;rw[<-hy];congr 1;omega
   ·rw[if_neg hj]at U
    rw[if_neg (by simp[hn];omega)];obtain⟨v,hv,hc⟩:=h6 r j c (at2_some.2 ⟨rows[r],by simp[hr],U⟩);exact⟨v,hv,hc.trans t⟩
  ·simp only[hi,if_false]at hx
   obtain⟨v,hv,hc⟩:=h6 i j c (at2_some.2 ⟨x,hx,U⟩);refine⟨v,?_,hc.trans t⟩;rw[ad,if_neg ?_]
   ·exact hv
   ·have ak:j<sz:=by
     have:=(Wag.1 U).1
     rw[h5 x (Wad hx)]at this;exact this
    simp only[Wbb,hn]
    rcases Nat.lt_or_gt_of_ne hi with aj|aj
    ·have:=WaH sz aj;rw[Wbc]at this;omega
    ·have:=WaH sz aj;rw[Wbc]at this;omega
theorem zxd {E:Env} {id ver r off cur sz:Nat} {rows:List (List C)} {v:Value} (hc:CRel E (.ref id ver r off) v) (U:E.H[id]? =some (.cells cur sz rows)) (hv:ver=cur):
  v=.pointer (some ⟨(E.bd id).blk,(E.bd id).off+(r*sz+off),none⟩):=by
 cases hc with
 |ref hid I hh=>exact(hh cur sz rows U).2 hv
theorem z3t {P:Program} {E:Env} (hE:HRel E) {t:TypeId} {a x:V} {va I:Value} (ha:VRel E a va) (hx:VRel E x I):GoodU P E (Instr.storeAt t va I) (zy3 P t a x E.H):=by
 unfold zy3;split
 ·rename_i id ver r off cs g n ad hg
  split
  ·rename_i cur sz rows ho
   rintro⟨U,hr,aa,hn⟩;refine⟨trivial,rfl,?_⟩
   cases ha with
   |one ha=>
    have ae:=zxd ha ho U
    subst ae;obtain⟨d,i,hu,hi,af,ai⟩:=zzt hg;obtain⟨h1,h2⟩:=hx.cells ad;obtain⟨E',ab,hH,hh,t⟩:=yac (P:=P) hE ho hr aa h1 h2;refine⟨E',?_,hH,hh,t⟩
    have:I.cells.size=i.size:=by rw[h1,af,hn]
    simp[Instr.storeAt,Instr.sureAddr,storeVar,zeh hi,this,ab]
  ·exact .bad
 ·exact .bad
theorem ya8 {E:Env} (hE:HRel E) {cs:List C} {vs:Array Value} (hn:vs.size=cs.length) (I:∀(j:Nat) (c:C),cs[j]? =some c->∃y,vs[j]? =some y/\CRel E c y) (ty:TypeId):
  ∃E',E'.w=E.w.alloc (.cells vs ty)/\E'.H=E.H++[.cells 0 cs.length [cs]]/\VRel E' (.one (.ref E.H.length 0 0 0)) (.pointer (some ⟨E.w.heap.size,0,none⟩))/\HRel E'/\Trans E E':=by
 obtain⟨t,hh⟩:=z0i hE (E.w.alloc (.cells vs ty)) ⟨E.w.heap.size,0,1⟩ (.cells 0 cs.length [cs]) (by simp) rfl rfl rfl (fun b hb=>heap_alloc_old E.w _ b hb) _ rfl (fun _=>by simp);refine⟨_,rfl,rfl,?_,hh ?_,t⟩
 ·refine .one (.ref (by simp) rfl fun cur sz rows ho=>?_)
  simp at ho;obtain⟨rfl,rfl,rfl⟩:=ho;exact⟨Wae _,fun _=>by simp⟩
 ·refine⟨?_,?_,?_,fun _=>⟨vs,ty,?_,?_,?_⟩⟩
  ·simp
  ·simp[lim]
  ·simp
  ·simp only[if_true];exact RowAt.mk0 (heap_alloc_new E.w _)
  ·simp[hn]
  ·intro i j c aa
   obtain⟨x,U,ab⟩:=at2_some.1 aa
   cases i with
   |zero=>
    simp at U;subst U;obtain⟨y,hy,hc⟩:=I j c ab;exact⟨y,by simpa using hy,hc.trans t⟩
   |succ i=>simp at U
theorem you {P:Program} {E:Env} (hE:HRel E) {t:TypeId} {x:V} {v:Value} (U:VRel E x v) {cs:List C} (I:x.cs=some cs):Good P E (Instr.box t v) (newF cs E.H):=by
 intro _;obtain⟨h1,h2⟩:=U.cells I;obtain⟨E',hw,hH,hv,hh,t'⟩:=ya8 hE h1 h2 t;exact⟨trivial,_,E',by simp[Instr.box,newVar,newRow,hw],hH,hv,hh,t'⟩
theorem zz7 {P:Program} {t:TypeId} {z:V} (h:tZ P t=some z):∃i I,P.info? t=some i/\i.zero=some I/\z=V.ofV I:=by
 unfold tZ at h;split at h
 ·rename_i i hi
  split at h
  ·rename_i I U;exact⟨i,I,hi,U,by simpa using h.symm⟩
  ·simp at h
 ·simp at h
theorem yfu {P:Program} {E:Env} (hE:HRel E) {t:TypeId} {z:V} (hz:tZ P t=some z) {cs:List C} (U:z.cs=some cs) (old:Value):Good P E (Instr.alloc t true old) (newF cs E.H):=by
 intro _;obtain⟨i,zv,hi,aa,rfl⟩:=zz7 hz;obtain⟨h1,h2⟩:=(V.ofV_rel E zv).cells U;obtain⟨E',hw,hH,hv,hh,t'⟩:=ya8 hE h1 h2 t
 have I:(Instr.alloc t true old).run P E.w=.ok (.pointer (some ⟨E.w.heap.size,0,none⟩)) (E.w.alloc (.cells zv.cells t)):=by
  simp only[Instr.alloc,zeroValue,typeInfo,Sem.run_bind,run_program,Result.andThen_ok,hi,Sem.run_pure,aa];simp[newVar,newRow]
 exact⟨trivial,_,E',by rw[I,hw],hH,hv,hh,t'⟩
theorem yhk (k:IntKind) (a b:Int) (h:k.min<=a/\a<=k.max):k.min<=a.tmod b/\a.tmod b<=k.max:=by
 have h0:k.min<=0/\0<=k.max:=by cases k<;>simp[IntKind.min,IntKind.max,IntKind.signed,IntKind.bits]
 rcases Int.le_total 0 a with ha|ha
 ·have h1:=Int.tmod_nonneg b ha
  have h2:a.tmod b<=a:=by
   have:(a.tmod b).natAbs<=a.natAbs:=by rw[Int.natAbs_tmod];exact Nat.mod_le _ _
   omega
  omega
 ·have h1:a.tmod b<=0:=by
   have:=Int.tmod_nonneg b (show 0<=-a by omega)
   rw[Int.neg_tmod]at this;omega
  have h2:a<=a.tmod b:=by
   have:(a.tmod b).natAbs<=a.natAbs:=by rw[Int.natAbs_tmod];exact Nat.mod_le _ _
   omega
  omega
theorem yi1 {P:Program} {E:Env} (hE:HRel E) {op:BinOp} {t:TypeId} {k:IntKind} {a b:Int} (ha:k.min<=a/\a<=k.max) (hb:k.min<=b/\b<=k.max):
  Good P E (binOp op t (.int k a) (.int k b)) (intF op k a b E.H):=by
 have cmp:∀(I:BinOp) (x:Bool),(Op.intCmp I a b).run P E.w=.ok (.bool x) E.w->(binOp I t (.int k a) (.int k b)).run P E.w=(Op.intCmp I a b).run P E.w->
   Good P E (binOp I t (.int k a) (.int k b)) (.ok (.one (.bool x)) E.H):=fun I x h1 h2=>.ok hE ⟨_,h2.trans h1,.one .bool⟩
 cases op
 case add=>exact .ok hE ⟨_,by simp[binOp,Op.intArith],.one (.int (zoe _ _))⟩
 case sub=>exact .ok hE ⟨_,by simp[binOp,Op.intArith],.one (.int (zoe _ _))⟩
 case mul=>exact .ok hE ⟨_,by simp[binOp,Op.intArith],.one (.int (zoe _ _))⟩
 case quo=>exact .same hE fun h=>⟨trivial,_,by simp[binOp,Op.intDiv,show¬b=0 from h],rfl,.one (.int (zoe _ _))⟩
 case rem=>exact .same hE fun h=>⟨trivial,_,by simp[binOp,Op.intDiv,show¬b=0 from h],rfl,.one (.int (yhk _ _ _ ha))⟩
 case and=>exact .ok hE ⟨_,by simp only[binOp,Op.intBits,ne_eq,not_true_eq_false,if_false];rfl,.one (.int (zoe _ _))⟩
 case or=>exact .ok hE ⟨_,by simp only[binOp,Op.intBits,ne_eq,not_true_eq_false,if_false];rfl,.one (.int (zoe _ _))⟩
 case xor=>exact .ok hE ⟨_,by simp only[binOp,Op.intBits,ne_eq,not_true_eq_false,if_false];rfl,.one (.int (zoe _ _))⟩
 case andNot=>exact .ok hE ⟨_,by simp only[binOp,Op.intBits,ne_eq,not_true_eq_false,if_false];rfl,.one (.int (zoe _ _))⟩
 case eql=>exact cmp .eql _ rfl (by simp[binOp])
 case neq=>exact cmp .neq _ rfl (by simp[binOp])
 case lss=>exact cmp .lss _ rfl (by simp[binOp])
 case leq=>exact cmp .leq _ rfl (by simp[binOp])
 case gtr=>exact cmp .gtr _ rfl (by simp[binOp])
 case geq=>exact cmp .geq _ rfl (by simp[binOp])
 all_goals exact .bad
theorem yjd {k:IntKind} {a:Int} {m:Nat} (ha:k.min<=a/\a<=k.max):k.min<=a.fdiv (2^m)/\a.fdiv (2^m)<=k.max:=by
 have I:(0:Int)<2^m:=Int.pow_pos (by decide)
 have h0:k.min<=0/\0<=k.max:=by cases k<;>decide
 rw[Wb0 _ (Int.le_of_lt I)]
 rcases Int.lt_or_le a 0 with h|h
 ·have h1:a/2^m<0:=Int.ediv_neg_of_neg_of_pos h I
  have h2:a<=a/2^m:=by
   refine Int.le_ediv_of_mul_le I ?_
   have:=Int.mul_le_mul_of_nonpos_left (Int.le_of_lt h) (show(1:Int)<=2^m from I)
   simpa using this
  omega
 ·have h1:0<=a/2^m:=Int.ediv_nonneg h (Int.le_of_lt I)
  have h2:a/2^m<=a:=Int.ediv_le_self _ h
  omega
theorem ylk {P:Program} {E:Env} (hE:HRel E) {op:BinOp} {t:TypeId} {k I:IntKind} {a b:Int} (ha:k.min<=a/\a<=k.max):
  Good P E (binOp op t (.int k a) (.int I b)) (shF op k a b E.H):=by
 cases op
 case shl=>exact .same hE fun h=>⟨trivial,_,by simp[binOp,Op.shift,Int.not_lt.2 h],rfl,.one (.int (zoe _ _))⟩
 case shr=>exact .same hE fun h=>⟨trivial,_,by simp[binOp,Op.shift,Int.not_lt.2 h],rfl,.one (.int (yjd ha))⟩
 all_goals exact .bad
end Go.Lz

end
section
namespace Go.Lz
theorem z6s {α:Type} [BEq α] [LawfulBEq α] [DecidableEq α] (a b:α):(a==b)=decide (a=b):=by
 cases h:(a==b)<;>simp_all
theorem yhp {P:Program} {E:Env} (hE:HRel E) {op:BinOp} {t:TypeId} {a b:List UInt8} {va I:ByteArray} (ha:va.data.toList=a) (hb:I.data.toList=b):
  Good P E (binOp op t (.string va) (.string I)) (strF op a b E.H):=by
 have la:va.toList=a:=by rw[<-ha];exact ByteArray.toList_eq va
 have U:I.toList=b:=by rw[<-hb];exact ByteArray.toList_eq I
 cases op
 case add=>
  refine .same hE fun h=>⟨trivial,.string (va++I),?_,rfl,.one (.str (by simp[ha,hb]) (by rw[Wai];exact h))⟩
  have h1:va.size=a.length:=by rw[<-ha];rfl
  have h2:I.size=b.length:=by rw[<-hb];rfl
  have h3:a.length+b.length<=281474976710656:=h
  have:¬(((va.size+I.size:Nat):Int)>IntKind.i64.max):=by simp[IntKind.max,IntKind.signed,IntKind.bits];omega
  simp only[binOp,Op.stringOp,Sem.run_ite,this,if_false,Sem.run_pure]
 case eql=>exact .ok hE ⟨.bool (decide (a=b)),by simp only[binOp,Op.stringOp,Sem.run_pure,la,U,z6s],.one .bool⟩
 case neq=>exact .ok hE ⟨.bool (!decide (a=b)),by simp only[binOp,Op.stringOp,Sem.run_pure,la,U,z6s],.one .bool⟩
 case lss=>exact .ok hE ⟨.bool (Op.bytesLess a b),by simp only[binOp,Op.stringOp,Sem.run_pure,la,U],.one .bool⟩
 all_goals exact .bad
theorem bool_inv {E:Env} {b:Bool} {v:Value} (h:CRel E (.bool b) v):v=.bool b:=by cases h;rfl
theorem int_inv {E:Env} {k:IntKind} {n:Int} {v:Value} (h:CRel E (.int k n) v):v=.int k n/\k.min<=n/\n<=k.max:=by cases h;rename_i h;exact⟨rfl,h⟩
theorem str_inv {E:Env} {s:List UInt8} {v:Value} (h:CRel E (.str s) v):∃b:ByteArray,v=.string b/\b.data.toList=s/\s.length<=lim:=by cases h;rename_i b h1 h2;exact⟨b,rfl,h1,h2⟩
theorem one_inv {E:Env} {c:C} {v:Value} (h:VRel E (.one c) v):CRel E c v:=by cases h;assumption
theorem agg_inv {E:Env} {cs:List C} {v:Value} (h:VRel E (.agg cs) v):∃vs,v=.agg vs/\vs.size=cs.length/\∀(j:Nat) (c:C),cs[j]? =some c->CRel E c (vs.getD j undef):=by cases h;rename_i vs h1 h2;exact⟨vs,rfl,h1,h2⟩
theorem zy2 {P:Program} {t:TypeId} (h:z2f P t=true):P.underlying t=some .bool:=by
 unfold z2f at h;split at h<;>simp_all
theorem zrx {P:Program} {t:TypeId} (h:zy1 P t=true):P.underlying t=some .string:=by
 unfold zy1 at h;split at h<;>simp_all
theorem yhn {P:Program} {t:TypeId} {k:IntKind} (h:tK P t=some k):P.underlying t=some (.int k):=by
 unfold tK at h;split at h<;>simp_all
theorem zi1 {P:Program} {t:TypeId} {e s b:Nat} (h:tSl P t=some (e,s,b)):∃i,P.underlying t=some (.slice e)/\P.info? e=some i/\i.size=s/\i.bytes=b:=by
 unfold tSl at h;split at h
 ·split at h
  ·rename_i i hi;simp at h;obtain⟨rfl,rfl,rfl⟩:=h;exact⟨i,by assumption,hi,rfl,rfl⟩
  ·simp at h
 ·simp at h
theorem zzs {P:Program} {t:TypeId} {n e s:Nat} (h:tAr P t=some (n,e,s)):∃i,P.underlying t=some (.array n e)/\P.info? e=some i/\i.size=s:=by
 unfold tAr at h;split at h
 ·split at h
  ·rename_i i hi;simp at h;obtain⟨rfl,rfl,rfl⟩:=h;exact⟨i,by assumption,hi,rfl⟩
  ·simp at h
 ·simp at h
theorem z7b {P:Program} {t:TypeId} {f o n:Nat} {g:Bool} (h:tFd P t f=some (o,g,n)):∃fs fd,P.underlying t=some (.struct fs)/\fs[f]? =some fd/\fd.offset=o/\tAg P fd.type=some (g,n):=by
 unfold tFd at h;split at h
 ·rename_i fs hu
  split at h
  ·rename_i fd hf
   split at h
   ·rename_i U n' I;simp at h;obtain⟨rfl,rfl,rfl⟩:=h;exact⟨fs,fd,hu,hf,rfl,I⟩
   ·simp at h
  ·simp at h
 ·simp at h
def Lf.lit:Lf->Lit
 |.i k n=>.int k n
 |.b x=>.bool x
 |.s x=>.string x
theorem Lf.lit_inj {a b:Lf} (h:a.lit=b.lit):a=b:=by
 cases a<;>cases b<;>simp_all [Lf.lit]
theorem yew {a b:List Lf}:a.map Lf.lit=b.map Lf.lit↔a=b:=
 ⟨fun h=>(List.map_inj_right (fun _ _=>Lf.lit_inj)).1 h,fun h=>by rw[h]⟩
theorem z2w {α:Type} {f:α->Option (List Lf)} {g:α->Option (List Lit)}:∀{l:List α} {as:List (List Lf)},(∀x∈l,∀la,f x=some la->g x=some (la.map Lf.lit))->l.mapM f=some as->l.mapM g=some (as.map (·.map Lf.lit))
 |[],as,_,h=>by simp at h;subst h;rfl
 |x::l,as,I,h=>by
  rw[WbT]at h|-;simp only[bind,Wbk,pure,WaP]at h|-;obtain⟨la,h1,U,h2,rfl⟩:=h;exact⟨_,I x (by simp) la h1,_,z2w (fun y hy=>I y (by simp[hy])) h2,rfl⟩
def CellsRel (E:Env) (cs:List C) (vs:List Value):Prop:=vs.length=cs.length/\∀(j:Nat) (c:C),cs[j]? =some c->∃v,vs[j]? =some v/\CRel E c v
theorem CellsRel.chunk {E:Env} {cs:List C} {vs:List Value} (h:CellsRel E cs vs) (off n:Nat):CellsRel E ((cs.drop off).take n) ((vs.drop off).take n):=by
 refine⟨by simp[h.1],fun j c I=>?_⟩;rw[WaQ]at I|-;split at I
 ·rename_i U
  rw[Wa0]at I;obtain⟨v,hv,hr⟩:=h.2 _ _ I;exact⟨v,by rw[if_pos U,Wa0];exact hv,hr⟩
 ·cases I
theorem CellsRel.single {E:Env} {c:C} {vs:List Value} (h:CellsRel E [c] vs):∃v,vs=[v]/\CRel E c v:=by
 obtain⟨h1,h2⟩:=h;obtain⟨v,hv,hr⟩:=h2 0 c rfl
 match vs,h1 with
 |[w],_=>
  simp at hv;subst hv;exact⟨w,rfl,hr⟩
theorem z7y {P:Program} {E:Env}:∀(d:Nat) (t:TypeId) (cs:List C) (vs:List Value) (la:List Lf),litC P d t cs=some la->CellsRel E cs vs->P.keyLits d t vs=some (la.map Lf.lit)
 |0,t,cs,vs,la,h,_=>by simp[litC]at h
 |d+1,t,cs,vs,la,h,hr=>by
  unfold litC at h;split at h
  ·rename_i b hu
   cases h;obtain⟨v,rfl,hv⟩:=hr.single
   have:=bool_inv hv;subst this
   simp[Program.keyLits,hu,Lf.lit]
  ·rename_i q U n hu
   split at h
   ·rename_i e
    cases h;obtain⟨v,rfl,hv⟩:=hr.single;obtain⟨rfl,h1,h2⟩:=int_inv hv;subst e;simp[Program.keyLits,hu,Lf.lit,Lit.wf,h1,h2]
   ·cases h
  ·rename_i st hu
   cases h;obtain⟨v,rfl,hv⟩:=hr.single;obtain⟨b,rfl,h1,h2⟩:=str_inv hv
   have h3:b.size=st.length:=by rw[<-h1];rfl
   have h4:st.length<=281474976710656:=h2
   have h5:b.size<=maxLen:=by rw[h3];unfold maxLen;omega
   simp only[Program.keyLits,hu,h5,if_true,h1];rfl
  ·rename_i n e hu
   split at h
   ·rename_i hl
    simp only[Wal]at h;obtain⟨as,ha,rfl⟩:=h
    have:=z2w (g:=fun i=>P.keyLits d e ((vs.drop (i*P.cellsOf e)).take (P.cellsOf e))) (fun i _ la I=>z7y d e _ _ la I (hr.chunk _ _)) ha
    simp only[Program.keyLits,hu];rw[if_pos (by rw[hr.1];exact hl),this];simp[List.map_flatten]
   ·cases h
  ·rename_i fs hu
   split at h
   ·rename_i hl
    simp only[Wal]at h;obtain⟨as,ha,rfl⟩:=h
    have:=z2w (g:=fun f=>P.keyLits d f.type ((vs.drop f.offset).take (P.cellsOf f.type))) (fun f _ la I=>z7y d f.type _ _ la I (hr.chunk _ _)) ha
    simp only[Program.keyLits,hu];rw[if_pos (by rw[hr.1];exact hl),this];simp[List.map_flatten]
   ·cases h
  ·cases h
theorem z8f {P:Program} {t:TypeId} (h:eqT P t=true):P.keyTypeAt 20 t=true/\P.eqGuardType P.depth t=false/\aggT P t=true:=by
 simp only[eqT,Wan,Wa4]at h;exact⟨h.1.1,h.1.2,h.2⟩
theorem ygm {P:Program} {E:Env} {t:TypeId} {xs ys:List C} {vx vy:Array Value} {a b:List Lf} (ha:litC P 20 t xs=some a) (hb:litC P 20 t ys=some b) (ht:eqT P t=true)
  (hx:CellsRel E xs vx.toList) (hy:CellsRel E ys vy.toList):(Op.equalIn 10000 t (.agg vx) (.agg vy)).run P E.w=.ok (decide (a=b)) E.w:=by
 obtain⟨h1,_,h3⟩:=z8f ht
 have I:∀(zs:List C) (l:List Lf) (v:Array Value),litC P 20 t zs=some l->CellsRel E zs v.toList->(Value.agg v).formed P t=true:=by
  intro zs l v hl hr
  have hsz:v.size=zs.length:=by rw[<-hr.1];simp
  unfold aggT at h3;unfold litC at hl
  cases hu:P.underlying t with
  |none=>simp[hu]at h3
  |some k=>
   cases k<;>simp only[hu,WaD]at h3 hl
   all_goals
    split at hl
    ·rename_i hc
     simp only[Value.formed,hu,beq_iff_eq]
     first|(rw[hsz];exact hc)|(rw[hsz];exact hc.1)
    ·cases hl
 obtain⟨r,hr,U⟩:=run_equalIn_deep (P:=P) 9980 20 t h1 E.w 20 20 (.agg vx) (.agg vy) _ _ (I xs a vx ha hx) (I ys b vy hb hy) (z7y 20 t xs _ a ha hx) (z7y 20 t ys _ b hb hy);rw[yew]at U
 have:r=decide (a=b):=by
  rw[Wa1,U,decide_eq_true_eq]
 rw[<-this];exact hr
theorem zx5 {E:Env} {cs:List C} {v:Value} (h:VRel E (.agg cs) v):∃vs:Array Value,v=.agg vs/\CellsRel E cs vs.toList:=by
 obtain⟨vs,rfl,h1,h2⟩:=agg_inv h;refine⟨vs,rfl,by simpa using h1,fun j c U=>?_⟩
 have I:j<vs.size:=by rw[h1];exact(Wag.1 U).1
 refine⟨vs[j],by simp[I],?_⟩
 have:=h2 j c U
 rwa[Wah,WaR I]at this
theorem yok {P:Program} {E:Env} (hE:HRel E) {op:BinOp} {t:TypeId} {xs ys:List C} {I U:Value} (hx:VRel E (.agg xs) I) (hy:VRel E (.agg ys) U):Good P E (binOp op t I U) (eqF P op t xs ys E.H):=by
 obtain⟨I,rfl,kx⟩:=zx5 hx;obtain⟨U,rfl,ky⟩:=zx5 hy;unfold eqF;split
 ·rename_i a b ha hb
  split
  ·refine .same hE fun ht=>⟨trivial,_,?_,rfl,.one .bool⟩
   rw[run_eql_struct,ygm ha hb ht kx ky];rfl
  ·refine .same hE fun ht=>⟨trivial,_,?_,rfl,.one .bool⟩
   rw[run_neq_struct,ygm ha hb ht kx ky];rfl
  ·exact .bad
 ·exact .bad
theorem z1l {P:Program} {t:TypeId} (h:z99 P t=true):∃a b c,P.underlying t=some (.func a b c):=by
 unfold z99 at h;split at h
 ·rename_i hu;exact⟨_,_,_,hu⟩
 ·cases h
theorem ygk {E:Env} {f:FuncId} {cap:List C} {v:Value} (h:CRel E (.fn f cap) v):∃vs,v=.func (.func f) #[] vs:=by cases h;exact⟨_,rfl⟩
theorem zq3 {E:Env} {v:Value} (h:CRel E .nilfn v):v=.nilFunc:=by cases h;rfl
theorem ya7 {P:Program} {E:Env} (hE:HRel E) {op:BinOp} {t:TypeId} {b:Bool} {I U:Value} (h:∀w,z99 P t=true->(Op.equalIn 10000 t I U).run P w=.ok b w) (hb:∀op,(op=.eql->binOp op t I U=(do pure (.bool (<-Op.equal t I U))))/\(op=.neq->binOp op t I U=(do pure (.bool (!(<-Op.equal t I U)))))):Good P E (binOp op t I U) (nilF P op t b E.H):=by
 unfold nilF;split
 ·refine .same hE fun ht=>⟨trivial,_,?_,rfl,.one .bool⟩
  rw[(hb .eql).1 rfl];simp[Op.equal,Op.maxDepth,h E.w ht]
 ·refine .same hE fun ht=>⟨trivial,_,?_,rfl,.one .bool⟩
  rw[(hb .neq).2 rfl];simp[Op.equal,Op.maxDepth,h E.w ht]
 ·exact .bad
theorem ykm {P:Program} {E:Env} (hE:HRel E) {op:BinOp} {t:TypeId} {x y:V} {U vy:Value} (I:VRel E x U) (hy:VRel E y vy):
  Good P E (binOp op t U vy) (binF P op t x y E.H):=by
 unfold binF;split
 ·exact yok hE I hy
 ·obtain⟨vs,rfl⟩:=ygk (one_inv I)
  have:=zq3 (one_inv hy);subst this
  refine ya7 hE (fun w ht=>?_) (fun op=>⟨fun h=>by subst h;rfl,fun h=>by subst h;rfl⟩);obtain⟨a,b,c,hu⟩:=z1l ht;rw[show(10000:Nat)=9999+1 from rfl,Op.equalIn];simp[run_underlying hu]
 ·have:=zq3 (one_inv I);subst this
  have:=zq3 (one_inv hy);subst this
  refine ya7 hE (fun w ht=>?_) (fun op=>⟨fun h=>by subst h;rfl,fun h=>by subst h;rfl⟩);obtain⟨a,b,c,hu⟩:=z1l ht;rw[show(10000:Nat)=9999+1 from rfl,Op.equalIn];simp[run_underlying hu]
 ·obtain⟨rfl,hk⟩:=int_inv (one_inv I)
  obtain⟨rfl,aa⟩:=int_inv (one_inv hy);split
  ·exact ylk hE hk
  ·split
   ·rename_i e;subst e;exact yi1 hE hk aa
   ·exact .bad
 ·obtain⟨b,rfl,h1,_⟩:=str_inv (one_inv I)
  obtain⟨b',rfl,ab,_⟩:=str_inv (one_inv hy);exact yhp hE h1 ab
 ·have I:=bool_inv (one_inv I)
  have hy:=bool_inv (one_inv hy)
  subst I;subst hy;split
  ·rename_i hb;exact .ok hE ⟨_,run_eql_bool E.w t _ _ (zy2 hb),.one .bool⟩
  ·rename_i hb;exact .ok hE ⟨_,run_neq_bool E.w t _ _ (zy2 hb),.one .bool⟩
  ·exact .bad
 ·exact .bad
theorem z9r {P:Program} {E:Env} {op:BinOp} {t:TypeId} {x y:V} {vx vy:Value} (U:VRel E x vx) (hy:VRel E y vy) (I:(binF P op t x y E.H).pre) (ox oy:Operand):
  (eqGuard op t ox oy vx vy).run P E.w=.ok () E.w:=by
 unfold binF at I;unfold eqGuard;split at I
 ·obtain⟨vx,rfl,U⟩:=zx5 U
  obtain⟨vy,rfl,hy⟩:=zx5 hy
  have ht:eqT P t=true:=by
   unfold eqF at I;split at I
   ·split at I
    ·exact I
    ·exact I
    ·exact I.elim
   ·exact I.elim
  exact run_eqGuard_agg E.w op t ox oy vx vy (z8f ht).2.1
 ·obtain⟨vs,rfl⟩:=ygk (one_inv U)
  have:=zq3 (one_inv hy);subst this
  split<;>rfl
 ·have:=zq3 (one_inv U);subst this
  have:=zq3 (one_inv hy);subst this
  split<;>rfl
 ·obtain⟨rfl,_⟩:=int_inv (one_inv U);obtain⟨rfl,_⟩:=int_inv (one_inv hy);split<;>rfl
 ·obtain⟨b,rfl,_⟩:=str_inv (one_inv U);obtain⟨b',rfl,_⟩:=str_inv (one_inv hy);split<;>rfl
 ·have U:=bool_inv (one_inv U);have hy:=bool_inv (one_inv hy);subst U;subst hy;split<;>rfl
 ·exact I.elim
theorem yk6 {P:Program} {E:Env} (hE:HRel E) {op:UnOp} {x:V} {U:Value} (I:VRel E x U):Good P E (Op.unary op U) (unF op x E.H):=by
 unfold unF;split
 ·have I:=bool_inv (one_inv I);subst I
  exact .ok hE ⟨_,by simp[Op.unary],.one .bool⟩
 ·obtain⟨rfl,h⟩:=int_inv (one_inv I)
  exact .ok hE ⟨_,by simp[Op.unary,Op.intArith],.one (.int (by simpa using zoe _ _))⟩
 ·obtain⟨rfl,h⟩:=int_inv (one_inv I)
  exact .ok hE ⟨_,by simp only[Op.unary,Op.intBits];rfl,.one (.int (zoe _ _))⟩
 ·exact .bad
open Go.Lib in
theorem z5h {P:Program} {E:Env} (hE:HRel E) {s d:TypeId} {b:List UInt8} {v:Value} (hx:CRel E (.str b) v):Good P E (convert s d v) (zvs P s d b E.H):=by
 unfold zvs
 cases hx with
 | @str _ ba hb hl=>
 split
 ·rename_i u e hs hd
  split
  ·rename_i he
   intro _
   have hsz:ba.size=b.length:=by show ba.data.size=b.length;rw[<-hb,Wbb]
   have hcut:ba.size<=grownCap E.w ba.size 0 e:=grownCap_ge E.w ba.size 0 e
   obtain⟨t,hh⟩:=z0i hE (bytesWorld E.w e ba) ⟨E.w.heap.size,0,grownCap E.w ba.size 0 e⟩ (.cells 0 1 (zog b)) (by rw[bytesWorld_size];omega) rfl rfl rfl
    (fun i hi=>bytesWorld_at_old E.w e ba i hi) _ rfl (fun _=>Wae _)
   refine⟨trivial,_,_,run_convert_string_bytes E.w s d e ba hs hd he,rfl,?_,hh ?_,t⟩
   ·refine .one (.msl (by simp) rfl fun cur sz rows' ho=>?_)
    simp at ho;obtain⟨rfl,rfl,rfl⟩:=ho;exact⟨Wae _,fun _=>⟨Waf _,by simp[zog],_,_,by rw[WaY,hsz,zwd,Waq],by simp[hsz],fun _=>by simp⟩⟩
   ·refine⟨?_,?_,?_,fun _=>⟨bytesCells E.w e ba,e,?_,?_,?_⟩⟩
    ·simp[zog,zwd];omega
    ·simpa [zog,zwd]using hl
    ·intro r hr;obtain⟨x,_,rfl⟩:=Wau.1 hr;rfl
    ·simp only[if_true]
     exact⟨_,bytesWorld_at_new E.w e ba,.inr (Wae _)⟩
    ·simp[bytesCells]
     have:ba.data.size=ba.size:=rfl
     omega
    ·intro i j c hij
     obtain⟨r,hr,hj⟩:=at2_some.1 hij;simp only[zog,zwd,Wbo,Wao,Wal,Function.comp_def]at hr;obtain⟨x,hx,rfl⟩:=hr
     have hj0:j=0:=by
      have:=(Wag.1 hj).1;simp at this;omega
     subst hj0;simp at hj;subst hj
     have hi:=(Wag.1 hx).1
     refine⟨.int .u8 (x.toNat:Int),?_,.int ?_⟩
     ·have hd:ba.data[i]? =some x:=by rw[<-Array.getElem?_toList,hb];exact hx
      have hlt:i<ba.data.size:=(Was.1 hd).1
      have hs':i<ba.size:=hlt
      simp[bytesCells,Wb1,hs']
      have h2:=(Was.1 hd).2
      exact congrArg (fun y:UInt8=>(y.toNat:Int)) h2
     ·have:=x.toNat_lt
      simp[IntKind.min,IntKind.max,IntKind.signed,IntKind.bits];omega
  ·exact fun hp=>hp.elim
 ·rename_i u hs hd
  exact .ok hE ⟨_,by simp[convert,run_underlying hs,run_underlying hd],.one (.str hb hl)⟩
 ·exact fun hp=>hp.elim
theorem yap {E:Env} {id ver r off cur sz:Nat} {rows:List (List C)} {v:Value} (U:E.H[id]? =some (.cells cur sz rows)) (hv:ver=cur)
  (h:v=.pointer (some ⟨(E.bd id).blk,(E.bd id).off+(r*sz+off),none⟩)):VRel E (.one (.ref id ver r off)) v:=by
 refine .one (.ref (Wag.1 U).1 (by rw[h];rfl) fun ab sz' aa I=>?_);rw[U]at I;cases I;exact⟨by omega,fun _=>h⟩
theorem z3b {P:Program} {E:Env} (hE:HRel E) {t:TypeId} {f:Nat} {x:V} {U:Value} (hx:VRel E x U):Good P E (Instr.fieldAt t U f) (ze9 P t x f E.H):=by
 have run:∀{o n:Nat} {g:Bool} (b k:Nat),tFd P t f=some (o,g,n)->n≠0->(Instr.fieldAt t (.pointer (some ⟨b,k,none⟩)) f).run P E.w=.ok (.pointer (some ⟨b,k+o,none⟩)) E.w:=by
  intro o n g b k h hn;obtain⟨fs,fd,hu,hf,rfl,hg⟩:=z7b h;obtain⟨d,i,ab,hi,aa,_⟩:=zzt hg;simp[Instr.fieldAt,run_underlying hu,hf,Instr.sureAddr,fieldPlace,zeh hi,aa,hn,zti]
 unfold ze9;split
 ·rename_i o g n id ver r off ht
  split
  ·rename_i cur sz rows ho
   refine .same hE fun⟨I,hn⟩=>⟨trivial,?_⟩
   have hv:=zxd (one_inv hx) ho I
   subst hv;exact⟨_,run _ _ ht hn,rfl,yap ho I (by simp[Waz])⟩
  ·exact .bad
 ·rename_i o g n row off ht
  refine .same hE fun hn=>⟨trivial,?_⟩
  cases (one_inv hx)with
  |iptr vals he hb hc hv=>
   subst he;exact⟨_,run _ _ ht hn,rfl,.one (.iptr vals (by simp[Waz]) hb hc hv)⟩
 ·exact .bad
theorem ya1 {P:Program} {E:Env} {t:TypeId} {g:Bool} {n:Nat} (hg:tAg P t=some (g,n)) {cs:List C} {vs:Array Value} {o:Nat} (hn:vs.size=cs.length) (hr:∀(j:Nat) (c:C),cs[j]? =some c->CRel E c (vs.getD j undef)) (hl:o+wd g n<=cs.length):
  ∃v,(part t vs o).run P E.w=.ok v E.w/\VRel E (ldV g n cs o) v:=by
 obtain⟨d,i,hu,hi,aa,ha⟩:=zzt hg
 cases g with
 |false=>
  have I:o<vs.size:=by simp[wd]at hl;omega
  refine⟨vs[o],by simp[part,ha,I],?_⟩
  have U:o<cs.length:=by omega
  simp only[ldV,WaD,if_false]
  have:=hr o cs[o] (by simp[U])
  simp only[Wah,I,WaR,WaI]at this;exact .one (by simpa [List.getD_eq_getElem?_getD,U]using this)
 |true=>
  simp only[wd,if_true]at hl;refine⟨.agg (vs.extract o (o+n)),by simp[part,ha,zeh hi,aa],?_⟩;simp only[ldV,if_true];refine .agg (by simp;omega) fun j c hj=>?_
  have I:j<n:=by
   have:=(Wag.1 hj).1
   simp at this;omega
  have hc:cs[o+j]? =some c:=by
   rw[WaQ]at hj;simp[I]at hj;exact hj
  have:=hr (o+j) c hc
  simp only[Wah]at this|-
  have e:(vs.extract o (o+n))[j]? =vs[o+j]? :=by
   rw[Array.getElem?_extract,if_pos (by omega)]
  rw[e];exact this
theorem ycm {P:Program} {E:Env} (hE:HRel E) {t:TypeId} {f:Nat} {x:V} {I:Value} (U:VRel E x I):Good P E (Instr.field t I f) (zxs P t x f E.H):=by
 unfold zxs;split
 ·rename_i o g n cs ht
  refine .same hE fun hl=>⟨trivial,?_⟩;obtain⟨vs,rfl,hn,hr⟩:=agg_inv U;obtain⟨fs,fd,hu,hf,rfl,hg⟩:=z7b ht;obtain⟨v,h1,h2⟩:=ya1 (P:=P) hg hn hr hl;exact⟨v,by simp[Instr.field,run_underlying hu,hf,asAgg,h1],rfl,h2⟩
 ·exact .bad
theorem yhr {E:Env} {rows:List (List C)} {a:Option Addr} {n cap:Nat} (h:CRel E (.sl rows) (.slice a n cap)) {i:Nat} (hi:i<rows.length):
  n=rows.length/\∃b off,a=some ⟨b,off,none⟩/\VRel E (.one (.iptr (rows.getD i []) 0)) (.pointer (some ⟨b,off+i*(rows.getD i []).length,none⟩)):=by
 cases h with
 |sl vals sz hn hcap hlim hsz hb hv=>
  refine⟨hn,?_⟩
  have U:rows≠[]:=by intro e;simp[e]at hi
  obtain⟨b,off,ha,hf,hc⟩:=hb U;refine⟨b,off,ha,?_⟩
  have hg:rows.getD i []=rows[i]:=by simp[List.getD_eq_getElem?_getD,hi]
  have hl:(rows.getD i []).length=sz:=by rw[hg];exact hsz _ (Wap hi)
  rw[hl];refine .one (.iptr (o:=off+i*sz) (vals i) (by simp) hf (fun j c I=>?_) fun j c I=>hv i j c (z3m I));rw[Waz];exact hc i j c (z3m I)
theorem zy5 {E:Env} {rows:List (List C)} {v:Value} (h:CRel E (.sl rows) v):∃a cap,v=.slice a rows.length cap/\rows.length<=cap/\rows.length<=lim:=by
 cases h with
 |sl vals sz hn hcap hlim hsz hb hv=>subst hn;exact⟨_,_,rfl,hcap,hlim⟩
theorem zlh {E:Env} {rows:List (List C)} {v:Value} (h:CRel E (.slf rows) v):CRel E (.sl rows) v/\∃a,v=.slice a rows.length rows.length:=by
 cases h with
 |slf h hf=>exact⟨h,hf⟩
theorem zpf {E:Env} {id ver lo hi cur sz:Nat} {rows:List (List C)} {v:Value} (h:CRel E (.msl id ver lo hi) v) (U:E.H[id]? =some (.cells cur sz rows)) (hv:ver=cur):
  lo<=hi/\hi<=rows.length/\∃(a:Option Addr) (cap:Nat),v=.slice a (hi-lo) cap/\lo+cap=(E.bd id).cap/\(0<cap->a=some ⟨(E.bd id).blk,(E.bd id).off+lo*sz,none⟩):=by
 cases h with
 |msl hid I hh=>exact(hh cur sz rows U).2 hv
theorem z20 {P:Program} {E:Env} (hE:HRel E) {t:TypeId} {x i:V} {vx vi:Value} (hx:VRel E x vx) (hi:VRel E i vi):Good P E (Instr.indexAt t vx vi) (zla P t x i E.H):=by
 unfold zla;split
 ·rename_i k i
  obtain⟨rfl,_⟩:=int_inv (one_inv hi);split
  ·rename_i n e s ht
   obtain⟨ie,hu,U,hs⟩:=zzs ht
   have run:∀(b o:Nat),0<=i/\i<n->(Instr.indexAt t (.pointer (some ⟨b,o,none⟩)) (.int k i)).run P E.w=.ok (.pointer (some ⟨b,o+i.toNat*s,none⟩)) E.w:=by
    intro b o h;simp[Instr.indexAt,asIntOf,run_underlying hu,Instr.sureAddr,h,zeh U,hs,zti]
   split
   ·split
    ·rename_i cur sz rows ho
     refine .same hE fun⟨I,hb⟩=>⟨trivial,?_⟩
     have hv:=zxd (one_inv hx) ho I
     subst hv;exact⟨_,run _ _ hb,rfl,yap ho I (by simp[Waz])⟩
    ·exact .bad
   ·refine .same hE fun hb=>⟨trivial,?_⟩
    cases (one_inv hx)with
    |iptr vals he ad hc hv=>
     subst he;exact⟨_,run _ _ hb,rfl,.one (.iptr vals (by simp[Waz]) ad hc hv)⟩
   ·exact .bad
  ·split
   ·rename_i e s b ht
    obtain⟨ie,hu,U,hs,_⟩:=zi1 ht
    have aa:∀rows,CRel E (.sl rows) vx->0<=i/\i<rows.length/\(nth rows i).length=s->∃v,(Instr.indexAt t vx (.int k i)).run P E.w=.ok v E.w/\VRel E (.one (.iptr (nth rows i) 0)) v:=by
     intro rows hr ⟨h0,h1,h2⟩;obtain⟨a,cap,rfl,_,_⟩:=zy5 hr;obtain⟨_,b,off,rfl,hv⟩:=yhr hr (i:=i.toNat) (by omega);refine⟨_,?_,hv⟩
     have ae:(rows.getD i.toNat []).length=s:=h2
     simp[Instr.indexAt,asIntOf,run_underlying hu,h0,h1,zeh U,hs,zti,-List.getD_eq_getElem?_getD,ae]
    split
    ·exact .same hE fun hb=>⟨trivial,by obtain⟨v,h1,h2⟩:=aa _ (one_inv hx) hb;exact⟨v,h1,rfl,h2⟩⟩
    ·exact .same hE fun hb=>⟨trivial,by obtain⟨v,h1,h2⟩:=aa _ (zlh (one_inv hx)).1 hb;exact⟨v,h1,rfl,h2⟩⟩
    ·split
     ·rename_i id ver lo aj _ cur sz rows ho
      refine .same hE fun⟨I,af,h0,h1⟩=>⟨trivial,?_⟩;obtain⟨ak,al,a,cap,rfl,hcap,ha⟩:=zpf (one_inv hx) ho I
      have ab:=hE.obj id _ ho
      obtain⟨an,_⟩:=ab
      have hc:0<cap:=by omega
      have ai:=ha hc
      subst ai;refine⟨_,by simp[Instr.indexAt,asIntOf,run_underlying hu,h0,h1,zeh U,hs,zti];rfl,rfl,yap ho I ?_⟩;simp[af,Wav,Waz]
     ·exact .bad
    ·exact .bad
   ·exact .bad
 ·exact .bad
theorem yb7 {P:Program} {E:Env} (hE:HRel E) {t:TypeId} {x i:V} {vx vi:Value} (hx:VRel E x vx) (hi:VRel E i vi):Good P E (Instr.index t vx vi) (zxn P t x i E.H):=by
 unfold zxn;split
 ·rename_i s k i
  split
  ·rename_i ht
   refine .same hE fun⟨h0,h1⟩=>⟨trivial,?_⟩;obtain⟨rfl,_⟩:=int_inv (one_inv hi);obtain⟨b,rfl,hb,_⟩:=str_inv (one_inv hx)
   have I:i.toNat<s.length:=by omega
   have aa:b[i.toNat]? =some s[i.toNat]:=by
    subst hb
    have U:i.toNat<b.size:=I
    rw[getElem?_pos b i.toNat U];rfl
   refine⟨.int .u8 (s[i.toNat]).toNat,by simp[Instr.index,asIntOf,run_underlying (zrx ht),h0,aa],rfl,?_⟩;simp only[List.getD_eq_getElem?_getD,I,Wac,WaI];refine .one (.int ?_)
   have:=(s[i.toNat]).toNat_lt
   simp[IntKind.min,IntKind.max,IntKind.signed,IntKind.bits];omega
  ·exact .bad
 ·rename_i cs k i
  split
  ·rename_i n e s ht
   split
   ·rename_i g m hg
    refine .same hE fun⟨h0,h1,h2⟩=>⟨trivial,?_⟩;obtain⟨rfl,_⟩:=int_inv (one_inv hi);obtain⟨vs,rfl,hn,hr⟩:=agg_inv hx;obtain⟨ie,hu,ab,hs⟩:=zzs ht;obtain⟨v,ad,ae⟩:=ya1 (P:=P) hg hn hr h2;exact⟨v,by simp[Instr.index,asIntOf,run_underlying hu,h0,h1,zeh ab,hs,ad],rfl,ae⟩
   ·exact .bad
  ·exact .bad
 ·exact .bad
theorem yis {P:Program} {E:Env} (hE:HRel E) {t:TypeId} {x:V} {vx:Value} (hx:VRel E x vx) (ty:TypeId) (ts:Array TypeId) (I:ts[0]? =some t):Good P E (Builtin.len_ ts ty #[vx]) (lenF P t x E.H):=by
 have U:∀n:Nat,n<=lim->IntKind.i64.min<=(n:Int)/\(n:Int)<=IntKind.i64.max:=by
  intro n h;simp[lim]at h;simp[IntKind.min,IntKind.max,IntKind.signed,IntKind.bits];omega
 unfold lenF;split
 ·split
  ·rename_i s ht
   obtain⟨b,rfl,hb,hl⟩:=str_inv (one_inv hx);refine .same hE fun _=>⟨hl,.int .i64 s.length,?_,rfl,.one (.int (U _ hl))⟩
   have:b.size=s.length:=by rw[<-hb];rfl
   simp[Builtin.len_,I,run_underlying (zrx ht),goInt,this]
  ·exact .bad
 ·split
  ·rename_i rows _ p ht
   obtain⟨e,s,b⟩:=p;obtain⟨ie,hu,_⟩:=zi1 ht;obtain⟨a,cap,rfl,hc,hl⟩:=zy5 (one_inv hx);exact .same hE fun _=>⟨hl,.int .i64 rows.length,by simp[Builtin.len_,I,run_underlying hu,goInt],rfl,.one (.int (U _ hl))⟩
  ·exact .bad
 ·split
  ·rename_i rows _ p ht
   obtain⟨e,s,b⟩:=p;obtain⟨ie,hu,_⟩:=zi1 ht;obtain⟨a,cap,rfl,hc,hl⟩:=zy5 (zlh (one_inv hx)).1;exact .same hE fun _=>⟨hl,.int .i64 rows.length,by simp[Builtin.len_,I,run_underlying hu,goInt],rfl,.one (.int (U _ hl))⟩
  ·exact .bad
 ·split
  ·rename_i id ver lo hi _ _ p cur sz rows ht ho
   obtain⟨e,s,b⟩:=p;obtain⟨ie,hu,_⟩:=zi1 ht;refine .same hE fun aa=>?_;obtain⟨ab,ad,a,cap,rfl,hcap,ha⟩:=zpf (one_inv hx) ho aa;obtain⟨ae,hlim,_⟩:=hE.obj id _ ho;exact⟨⟨by omega,ad,ab⟩,.int .i64 ((hi-lo:Nat):Int),by simp[Builtin.len_,I,run_underlying hu,goInt],rfl,.one (.int (U _ (by omega)))⟩
  ·exact .bad
 ·split
  ·rename_i n e s ht
   obtain⟨ie,hu,_⟩:=zzs ht;refine .same hE fun hn=>⟨trivial,.int .i64 n,?_,rfl,.one (.int (U _ hn))⟩;simp[Builtin.len_,I,run_underlying hu,goInt]
  ·exact .bad
end Go.Lz

end
section
namespace Go.Lz
theorem yh0 {E:Env} {rows:List (List C)} {b off s:Nat} (hs:∀r∈rows,r.length=s)
  (hc:∀i j c,at2 rows i j=some c->∃v,E.w.cell? ⟨b,off+(i*s+j),none⟩=some v/\CRel E c v) (n:Nat) (hn:n<=rows.length):
  ∃f:Nat->Value,(∀m,m<n*s->E.w.cell? ⟨b,off+m,none⟩=some (f m))/\(∀i j c,i<n->at2 rows i j=some c->CRel E c (f (i*s+j)))/\∀m,m<n*s->(f m).oneCell'=true:=by
 have key:∀m,∃v,m<n*s->(E.w.cell? ⟨b,off+m,none⟩=some v/\(∃c,at2 rows (m/s) (m%s)=some c/\CRel E c v)):=by
  intro m
  by_cases hm:m<n*s
  ·have ai:0<s:=Nat.pos_of_ne_zero (fun h=>by simp[h]at hm)
   have hi:m/s<n:=Nat.div_lt_of_lt_mul (by rw[Wbz];exact hm)
   have U:m%s<s:=Nat.mod_lt _ ai
   have aa:m/s<rows.length:=by omega
   have ab:(rows[m/s]).length=s:=hs _ (Wap aa)
   have ha:at2 rows (m/s) (m%s)=some (rows[m/s][m%s]'(by rw[ab];exact U)):=at2_some.2 ⟨rows[m/s],by simp[aa],by simp[ab,U]⟩
   obtain⟨v,h1,h2⟩:=hc _ _ _ ha;refine⟨v,fun _=>⟨?_,_,ha,h2⟩⟩
   have:m/s*s+m%s=m:=by rw[Wbz];exact Nat.div_add_mod m s
   rw[this]at h1;exact h1
  ·exact⟨undef,fun h=>(hm h).elim⟩
 refine⟨fun m=>Classical.choose (key m),fun m hm=>(WaW (key m) hm).1,fun i j c hi ad=>?_,fun m hm=>?_⟩
 ·obtain⟨r,hr,U⟩:=at2_some.1 ad
  have ae:j<s:=by
   have:=(Wag.1 U).1
   rw[hs r (Wad hr)]at this;exact this
  have hm:i*s+j<n*s:=by have:=WaH s hi;rw[Wbc]at this;omega
  obtain⟨_,c',af,I⟩:=WaW (key (i*s+j)) hm
  have h1:(i*s+j)/s=i:=by rw[Wbz,Nat.mul_add_div (by omega),Nat.div_eq_of_lt ae];rfl
  have h2:(i*s+j)%s=j:=by rw[Wbz,Nat.mul_add_mod,Nat.mod_eq_of_lt ae]
  rw[h1,h2,ad]at af;cases af;exact I
 ·obtain⟨_,c',_,I⟩:=WaW (key m) hm
  exact I.cell
structure SrcOk (P:Program) (E:Env) (s:Nat) (v:Value) (rows:List (List C)):Prop where
 len:∀w',(Builtin.lenOf v).run P w'=.ok rows.length w'
 cells:∀n,n<=rows.length->∃f:Nat->Value,(∀w',(∀a,w'.cell? a=E.w.cell? a)->(Builtin.firstCells s n v).run P w'=.ok ((List.range (n*s)).map f).toArray w')/\
  (∀i j c,i<n->at2 rows i j=some c->CRel E c (f (i*s+j)))/\∀m,m<n*s->(f m).oneCell'=true
theorem SrcOk.mem {P:Program} {E:Env} {s:Nat} {rows:List (List C)} {b off cap:Nat} (I:∀r∈rows,r.length=s)
  (hc:∀i j c,at2 rows i j=some c->∃v,E.w.cell? ⟨b,off+(i*s+j),none⟩=some v/\CRel E c v):SrcOk P E s (.slice (some ⟨b,off,none⟩) rows.length cap) rows:=by
 refine⟨fun _=>rfl,fun n hn=>?_⟩;obtain⟨f,h1,h2,h3⟩:=yh0 I hc n hn;refine⟨f,fun w' hw=>?_,h2,h3⟩;simp only[Builtin.firstCells];exact run_loadCells w' ⟨b,off,none⟩ (n*s) f (fun j U=>by rw[zti,hw];exact h1 j U)
theorem zpa {P:Program} {E:Env} (hE:HRel E) {c:C} {v:Value} {rows:List (List C)} {p:Prop} (hc:CRel E c v) (h:zm8 E.H c=some (rows,p)) (hp:p) {s:Nat} (U:∀r∈rows,r.length=s) (an:0<s):
  SrcOk P E s v rows:=by
 have ad:CRel E (.sl rows) v->SrcOk P E s v rows:=by
  intro hc
  cases hc with
  | @sl _ a n cap vals sz hn hcap hlim hsz hb hv=>
    subst hn
    cases rows with
    |nil=>
     refine⟨fun _=>rfl,fun n hn=>⟨fun _=>undef,fun w' _=>?_,by simp[at2],by simp at hn;simp[hn]⟩⟩;simp at hn;subst hn;cases a<;>simp[Builtin.firstCells,loadCells,loadCellsFrom]
    |cons r0 rest=>
     obtain⟨b,off,rfl,hf,ab⟩:=hb (by simp)
     have e:sz=s:=by rw[<-hsz r0 (by simp),U r0 (by simp)]
     subst e;exact SrcOk.mem U fun i j c I=>⟨_,ab i j c I,hv i j c I⟩
 cases c<;>simp only[zm8]at h<;>try (cases h;done)
 case sl r=>cases h;exact ad hc
 case slf r=>cases h;exact ad (zlh hc).1
 case str st=>
  cases h;obtain⟨b,rfl,hb,hl⟩:=str_inv hc
  have hsz:b.size=st.length:=by rw[<-hb];rfl
  refine⟨fun _=>by simp[Builtin.lenOf,hsz],fun n hn=>?_⟩
  have ai:n<=st.length:=by simpa using hn
  rcases Nat.eq_zero_or_pos n with hz|hz
  ·subst hz
   refine⟨fun _=>undef,fun w' _=>?_,by simp,by simp⟩;simp[Builtin.firstCells]
  ·have aa:st≠[]:=by intro e;simp[e]at ai;omega
   have e1:s=1:=by
    cases st with
    |nil=>exact(aa rfl).elim
    |cons x r=>have:=U [.int .u8 x.toNat] (by simp);simp at this;omega
   subst e1;refine⟨fun m=>.int .u8 (st.getD m 0).toNat,fun w' _=>?_,?_,fun m _=>rfl⟩
   ·simp only[Builtin.firstCells,Sem.run_pure,Nat.mul_one]
    congr 1
    apply Wbp
    apply WbA
    intro m
    have hd:(b.extract 0 n).data.toList=st.take n:=by rw[<-hb];simp[ByteArray.data_extract]
    simp only[Array.toList_map,Wao,hd,WaQ,List.getElem?_range]
    by_cases hm:m<n
    ·have aj:m<st.length:=by omega
     simp[hm,aj]
    ·simp[hm]
   ·intro i j c hi I
    obtain⟨r,hr,hj⟩:=at2_some.1 I;simp only[Wao,Wal]at hr;obtain⟨x,hx,rfl⟩:=hr
    cases j with
    |zero=>
     simp at hj;subst hj;simp[hx];refine .int ?_
     have:=x.toNat_lt
     simp[IntKind.min,IntKind.max,IntKind.signed,IntKind.bits];omega
    |succ j=>simp at hj
 case msl id ver lo hi=>
  split at h
  ·rename_i cur sz rws ho
   cases h;obtain⟨ao,aq,a,cap,rfl,hcap,ha⟩:=zpf hc ho hp;obtain⟨h3,h4,h5,h6⟩:=hE.obj id _ ho
   have hlen:((rws.take hi).drop lo).length=hi-lo:=by simp;omega
   by_cases hz:hi-lo=0
   ·have ae:(rws.take hi).drop lo=[]:=WaJ (by omega)
    rw[ae,hz];refine⟨fun _=>rfl,fun n hn=>⟨fun _=>undef,fun w' _=>?_,by simp[at2],by simp at hn;simp[hn]⟩⟩;simp at hn;subst hn;cases a<;>simp[Builtin.firstCells,loadCells,loadCellsFrom]
   ·have ak:0<cap:=by omega
    have al:=ha ak
    subst al;obtain⟨arr,ty,h1,h2,h6⟩:=h6 (by omega)
    have af:∀r∈(rws.take hi).drop lo,r∈rws:=fun r hr=>Wa2 (Wa5 hr)
    have e:sz=s:=by
     have aa:(rws.take hi).drop lo≠[]:=by intro e;simp[e]at hlen;omega
     obtain⟨r,hr⟩:=List.exists_mem_of_ne_nil _ aa;rw[<-h5 r (af r hr),U r hr]
    subst e
    have key:∀i j c,at2 ((rws.take hi).drop lo) i j=some c->at2 rws (lo+i) j=some c:=by
     intro i j c I;obtain⟨r,hr,hj⟩:=at2_some.1 I;rw[Wa0,WaQ]at hr;split at hr
     ·exact at2_some.2 ⟨r,hr,hj⟩
     ·cases hr
    have:=SrcOk.mem (P:=P) (E:=E) (s:=sz) (rows:=(rws.take hi).drop lo) (b:=(E.bd id).blk) (off:=(E.bd id).off+lo*sz) (cap:=cap) U
     (fun i j c I=>by
       obtain⟨v,hv,hr⟩:=h6 _ _ _ (key i j c I);refine⟨v,?_,hr⟩;rw[h1.cell?];rw[Wav]at hv
       simpa [Waz]using hv)
    rw[hlen]at this;exact this
  ·cases h
theorem z8x {E:Env} (hE:HRel E) {c:C} {v:Value} {rows:List (List C)} {p:Prop} (hc:CRel E c v) (h:zm8 E.H c=some (rows,p)) (U:p):rows.length<=lim:=by
 cases c<;>simp only[zm8]at h<;>try (cases h;done)
 case sl r=>cases h;obtain⟨_,_,_,_,h⟩:=zy5 hc;exact h
 case slf r=>cases h;obtain⟨_,_,_,_,h⟩:=zy5 (zlh hc).1;exact h
 case str st=>cases h;obtain⟨_,_,_,h⟩:=str_inv hc;simpa using h
 case msl id ver lo hi=>
  split at h
  ·rename_i cur sz rws I
   cases h
   have hl:=(hE.obj id _ I).2.1
   simp only[WaM,WaA];omega
  ·cases h
def z0c:List C->Int
 |[.int .u8 n]=>n
 |_=>0
theorem zvo {r:List C} (h:z00 r=true):r=[.int .u8 (z0c r)]/\z2m r=UInt8.ofNat (z0c r).toNat:=by
 unfold z00 at h;split at h
 ·exact⟨rfl,rfl⟩
 ·cases h
theorem ztc {P:Program} {E:Env} (hE:HRel E) {s d:TypeId} {c:C} {v:Value} (hx:CRel E c v) (hv:(∃a l cap,v=.slice a l cap)\/∃id ver lo hi,c=.msl id ver lo hi):Good P E (convert s d v) (zmh P s d c E.H):=by
 unfold zmh;split
 ·rename_i e rows p hs hd hr
  split
  ·rename_i he
   rintro⟨U,hb⟩
   have aa:∀r∈rows,z00 r=true:=Wak.1 hb
   have ab:∀r∈rows,r.length=1:=fun r hr=>by rw[(zvo (aa r hr)).1];rfl
   have src:=zpa (P:=P) hE hx hr U ab (by omega)
   have hl:=z8x hE hx hr U
   have ai:∃a l cap,v=.slice a l cap:=by
    rcases hv with h|⟨id,ver,lo,hi,rfl⟩
    ·exact h
    ·simp only[zm8]at hr
     split at hr
     ·rename_i cur sz rws ho
      cases hr;obtain⟨_,_,a,cap,h,_⟩:=zpf hx ho U;exact⟨_,_,_,h⟩
     ·cases hr
   obtain⟨a,l,cap,rfl⟩:=ai;obtain⟨f,h1,h2,h3⟩:=src.cells rows.length (Wae _)
   have hf:(List.range (rows.length*1)).map f=(rows.map z0c).map (Value.int .u8):=by
    apply WbA
    intro i;simp only[Wao,Nat.mul_one]
    rcases WaG i rows.length with hi|hi
    ·have hr:rows[i]? =some rows[i]:=by simp[hi]
     have ae:=(zvo (aa rows[i] (Wap hi))).1
     have aj:=h2 i 0 (.int .u8 (z0c rows[i])) hi (at2_some.2 ⟨rows[i],hr,by rw[ae];rfl⟩)
     have e:=(int_inv aj).1
     simp only[Nat.mul_one,Wbn]at e;rw[hr];simp[List.getElem?_range hi,e]
    ·simp[WbI,hi]
   have af:(List.map z2m rows)=(rows.map z0c).map fun n=>UInt8.ofNat n.toNat:=by
    rw[Wbo];exact WbB fun r hr=>(zvo (aa r hr)).2
   have I:=h1 E.w (fun _=>rfl)
   rw[hf]at I
   have ak:l=rows.length:=by
    have:=src.len E.w
    simp only[Builtin.lenOf]at this
    have e:=(Result.ok.inj this).1
    omega
   refine⟨trivial,.string (strOfNums (rows.map z0c)),E,?_,rfl,?_,hE,Trans.refl E⟩
   ·cases a with
    |none=>
     rw[run_convert_bytes_nil E.w s e hs he l cap d hd];simp only[Builtin.firstCells,Sem.run_pure]at I
     have e2:=(Result.ok.inj I).1
     have e3:(rows.map z0c)=[]:=by
      have:=congrArg Array.size e2
      simp at this;simp[WaJ this.symm]
     rw[e3];rfl
    |some ad=>
     simp only[Builtin.firstCells,Nat.mul_one]at I;rw[ak,run_convert_bytes_string E.w s d e _ rows.length cap hs he hd,run_bytesToString E.w ad rows.length cap _ I,foldl_push_bytes];simp[strOfNums,ByteArray.empty,ByteArray.emptyWithCapacity];rfl
   ·refine .one (.str ?_ (by simpa using hl))
    rw[strOfNums_data,af]
  ·exact fun U=>U.elim
 ·exact fun U=>U.elim
theorem ych (w:World) (b k:Nat) {arr:Array Value} {ty:TypeId} {fz:Nat×Nat} (h:w.heap[b]? =some (.cells arr ty fz)):(w.freeze ⟨b,k,none⟩ 1).heap[b]? =some (.cells arr ty (if fz.1==fz.2 then(k,k+1)else(min fz.1 k,max fz.2 (k+1)))):=by
 unfold World.freeze;rw[if_neg (by decide)];simp only[Wb2,if_true,h,Wbq]
theorem z4x (w:World) (b k i:Nat) (h:i≠b):(w.freeze ⟨b,k,none⟩ 1).heap[i]? =w.heap[i]? :=by
 unfold World.freeze;rw[if_neg (by decide)];simp[Wb2,Ne.symm h]
theorem yd4 {α:Type} {l:List α} {i:Nat} {x:α} (h:l[i]? =some x):l.set i x=l:=by
 apply WbA
 intro j;rw[Wa9];split
 ·rename_i e;subst e
  have:=(Wag.1 h).1
  simp[this];exact((Wag.1 h).2).symm
 ·rfl
theorem z5w {P:Program} {E:Env} (hE:HRel E) {s d:TypeId} {id ver lo hi:Nat} {v:Value} (hx:CRel E (.msl id ver lo hi) v):Good P E (convert s d v) (zvx P s d id ver lo hi E.H):=by
 unfold zvx;split
 ·exact ztc hE hx (.inr ⟨_,_,_,_,rfl⟩)
 ·rename_i e hd
  split
  ·rename_i cur sz rows he ho hs
   have ad:s=d:=by simpa using hs
   subst ad;rintro⟨hv,ae,hr⟩;subst ae;obtain⟨_,h2,a,cap,rfl,hcap,ha⟩:=zpf hx ho hv;obtain⟨h3,h4,h5,h6⟩:=hE.obj id _ ho
   have aa:(E.bd id).cap≠0:=by omega
   have I:E.live id (.cells cur sz rows):=aa
   obtain⟨arr,ty,g1,g2,g3⟩:=h6 aa;obtain⟨fz,gh,gf⟩:=g1
   have af:=ha (by omega)
   subst af
   let w':=E.w.freeze ⟨(E.bd id).blk,arr.size,none⟩ 1
   have hsz:w'.heap.size=E.w.heap.size:=by
    show(E.w.freeze _ 1).heap.size=_
    unfold World.freeze;rw[if_neg (by decide)];simp
   have hw:∀f:World->Type,True:=fun _=>trivial
   have U:w'.os=E.w.os/\w'.tape=E.w.tape/\w'.output=E.w.output:=by
    show(E.w.freeze _ 1).os=_/\(E.w.freeze _ 1).tape=_/\(E.w.freeze _ 1).output=_
    unfold World.freeze;rw[if_neg (by decide)];exact⟨rfl,rfl,rfl⟩
   obtain⟨t,hh⟩:=zof hE id (.cells cur sz rows) (.cells cur sz rows) w' (E.bd id) ho (by omega) U.1 U.2.1 U.2.2
    (fun b hb ai=>z4x E.w _ _ b (ai I))
    (fun ao sz' an e=>by cases e;exact⟨cur,sz,rows,rfl,Wae _,fun _=>⟨rfl,rfl,rfl⟩⟩) (fun aq e=>by cases e) _ rfl (fun _=>.inl ⟨I,rfl⟩)
   have ab:RowAt w' (E.bd id).blk arr ty:=by
    refine⟨_,ych E.w _ arr.size gh,.inr ?_⟩
    rcases gf with rfl|gf
    ·simp
    ·split
     ·simp
     ·simp only[Nat.le_min];omega
   have hH:E.H.set id (.cells cur sz rows)=E.H:=yd4 ho
   have aj:=hh ⟨by simpa using h3,h4,h5,fun _=>⟨arr,ty,by simp only[if_true];exact ab,by simp only[if_true];exact g2,fun i j c ak=>by
    obtain⟨v,hv,hc⟩:=g3 i j c ak;simp only[if_true]
    exact⟨v,hv,hc.trans t⟩⟩⟩
   refine⟨trivial,_,_,?_,hH,(VRel.one hx).trans t,aj,t⟩
   have al:E.w.shape? (E.bd id).blk=some (ty,arr.size):=by unfold World.shape?;rw[gh]
   simp[convert,run_underlying hd,run_underlying he,markStringish,al];rfl
  ·exact fun hp=>hp.elim
 ·exact fun hp=>hp.elim
theorem yfn {P:Program} {E:Env} (hE:HRel E) {s d:TypeId} {x:V} {U:Value} (I:VRel E x U):Good P E (convert s d U) (z6j P s d x E.H):=by
 unfold z6j;split
 ·obtain⟨rfl,h⟩:=int_inv (one_inv I)
  split
  ·rename_i k hk
   split
   ·rename_i hs
    obtain⟨u,hu⟩:=Wb3.1 hs;refine .ok hE ⟨_,?_,.one (.int (zoe k _))⟩;simp[convert,run_underlying hu,run_underlying (yhn hk),Conv.intToInt]
   ·exact .bad
  ·exact .bad
 ·exact z5h hE (one_inv I)
 ·obtain⟨a,cap,h,_⟩:=zy5 (one_inv I)
  exact ztc hE (one_inv I) (.inl ⟨_,_,_,h⟩)
 ·obtain⟨a,cap,h,_⟩:=zy5 (zlh (one_inv I)).1
  exact ztc hE (one_inv I) (.inl ⟨_,_,_,h⟩)
 ·exact z5w hE (one_inv I)
 ·exact .bad
theorem zx7 {P:Program} {E:Env} {e:TypeId} {z:V} {zs:List C} (hz:tZ P e=some z) (U:z.cs=some zs):
  ∃i I,P.info? e=some i/\i.zero=some I/\I.cells.size=zs.length/\∀(E:Env) (j:Nat) (c:C),zs[j]? =some c->∃y,I.cells[j]? =some y/\CRel E c y:=by
 obtain⟨i,I,hi,aa,rfl⟩:=zz7 hz;exact⟨i,I,hi,aa,((V.ofV_rel E I).cells U).1,fun E=>((V.ofV_rel E I).cells U).2⟩
theorem z2t {E:Env} (hE:HRel E) {w1:World} (hs:E.w.heap.size=w1.heap.size) (I:w1.os=E.w.os) (ht:w1.tape=E.w.tape) (hu:w1.output=E.w.output) (hk:∀b,b<E.w.heap.size->w1.heap[b]? =E.w.heap[b]?)
  {arr:Array Value} {ty:TypeId} {s n cap:Nat} {rows:List (List C)} (ab:rows.length=n) (hcap:n<=cap) (U:cap*s<=arr.size) (hlim:n<=lim) (ad:∀r∈rows,r.length=s)
  (aa:∀i j c,at2 rows i j=some c->∃v,arr[i*s+j]? =some v/\CRel E c v):
  ∃E',E'.w=w1.alloc (.cells arr ty)/\E'.H=E.H++[.cells 0 s rows]/\VRel E' (.one (.msl E.H.length 0 0 n)) (.slice (some ⟨E.w.heap.size,0,none⟩) n cap)/\HRel E'/\Trans E E':=by
 obtain⟨t,hh⟩:=z0i hE (w1.alloc (.cells arr ty)) ⟨E.w.heap.size,0,cap⟩ (.cells 0 s rows) (by simp[hs]) I ht hu
  (fun b hb=>(heap_alloc_old w1 _ b (by omega)).trans (hk b hb)) _ rfl (fun _=>Wae _)
 refine⟨_,rfl,rfl,?_,hh ?_,t⟩
 ·refine .one (.msl (by simp) rfl fun cur sz af I=>?_)
  simp at I;obtain⟨rfl,rfl,rfl⟩:=I;exact⟨Wae _,fun _=>⟨Waf _,by omega,_,cap,rfl,by simp,fun _=>by simp⟩⟩
 ·refine⟨?_,?_,ad,fun _=>⟨arr,ty,?_,?_,?_⟩⟩
  ·simpa [ab]using hcap
  ·omega
  ·simp only[if_true,hs];exact RowAt.mk0 (heap_alloc_new w1 _)
  ·simpa using U
  ·intro i j c ae
   obtain⟨v,hv,hr⟩:=aa i j c ae;exact⟨v,by simpa using hv,hr.trans t⟩
theorem yen (z:Array Value) (n m:Nat) (h:m<n) (U:0<z.size):(madeCells z n)[m]? =z[m%z.size]? :=by
 have I:m%z.size<z.size:=Nat.mod_lt _ U
 simp[madeCells,h,I]
theorem z2n {E:Env} {zs:List C} {I:Array Value} (hz:I.size=zs.length) (U:∀(j:Nat) (c:C),zs[j]? =some c->∃y,I[j]? =some y/\CRel E c y) (n k:Nat) (ae:n<=k):
  ∀i j c,at2 (List.replicate n zs) i j=some c->∃v,(madeCells I (k*zs.length))[i*zs.length+j]? =some v/\CRel E c v:=by
 intro i j c aa;obtain⟨r,hr,hj⟩:=at2_some.1 aa;rw[Wb4]at hr;split at hr
 ·rename_i hi
  simp at hr;subst hr
  have ab:j<zs.length:=(Wag.1 hj).1
  have ad:i*zs.length+j<k*zs.length:=by
   have:=WaH zs.length (show i+1<=k by omega);rw[Wbc]at this;omega
  rw[yen _ _ _ ad (by omega),hz,Wbz i,Nat.mul_add_mod,Nat.mod_eq_of_lt ab];exact U j c hj
 ·cases hr
theorem z2x {pl:Bool} {P:Program} {E:Env} (hE:HRel E) {t:TypeId} {l c:V} {vl vc:Value} (hl:VRel E l vl) (hc:VRel E c vc):Good P E (Instr.makeSlice t vl vc) (znl P pl t l c E.H):=by
 unfold znl;split
 ·rename_i kl l kc c e s b ht
  obtain⟨rfl,_⟩:=int_inv (one_inv hl);obtain⟨rfl,_⟩:=int_inv (one_inv hc);obtain⟨ie,hu,af,hs,hb⟩:=zi1 ht;split
  ·rename_i z hz
   split
   ·rename_i zs aj
    have main:0<=l/\l<=c/\b*c<=281474976710656/\c<=lim/\zs.length=s->∃(w':World) (arr:Array Value),(Instr.makeSlice t (.int kl l) (.int kc c)).run P E.w=.ok (.slice (some ⟨E.w.heap.size,0,none⟩) l.toNat c.toNat) w'/\w'=E.w.alloc (.cells arr e)/\c.toNat*s<=arr.size/\
      ∀i j I,at2 (List.replicate l.toNat zs) i j=some I->∃y,arr[i*s+j]? =some y/\CRel E I y:=by
     rintro⟨h0,h1,h2,h3,h4⟩;obtain⟨i,zv,hi,ak,hsz,ai⟩:=zx7 (P:=P) (E:=E) hz aj;rw[af]at hi;cases hi
     have hlim:c<=281474976710656:=by simpa [lim]using h3
     have U:=run_make (P:=P) E.w t e ie zv hu af ak kl kc l c h0 h1 (by rw[hb];exact h2) (by omega)
     have al:l.toNat<=c.toNat:=by omega
     exact⟨_,madeCells zv.cells (c.toNat*ie.size),U,rfl,by simp[size_madeCells,hs],fun i j I ab=>by
      have:=z2n (E:=E) hsz (ai E) l.toNat c.toNat al i j I ab
      rw[h4]at this
      rw[hs];exact this⟩
    split
    ·rintro aa
     obtain⟨w',arr,U,hw,o3,o5⟩:=main aa;obtain⟨h0,h1,h2,h3,h4⟩:=aa;obtain⟨tr,hh⟩:=zi9 hE w' (by rw[hw];simp) (by rw[hw];rfl) (by rw[hw];rfl) (by rw[hw];rfl) (fun b hb=>by rw[hw];exact heap_alloc_old E.w _ b hb);refine⟨trivial,_,⟨w',E.Fr,E.bd,E.H⟩,U,rfl,?_,hh,tr⟩
     have ad:∀i j,∃y,∀I,at2 (List.replicate l.toNat zs) i j=some I->arr[i*s+j]? =some y/\CRel ⟨w',E.Fr,E.bd,E.H⟩ I y:=by
      intro i j
      cases hc:at2 (List.replicate l.toNat zs) i j with
      |none=>exact⟨undef,by simp⟩
      |some I=>
       obtain⟨y,hy,hr⟩:=o5 _ _ _ hc;refine⟨y,fun ao e=>?_⟩;cases e;exact⟨hy,hr.trans tr⟩
     refine .one (.sl (fun i j=>Classical.choose (ad i j)) s (by simp) (by simp;omega) (by simp only[List.length_replicate];have:c<=(lim:Int):=h3;omega) ?_ (fun _=>⟨E.w.heap.size,0,rfl,⟨by rw[hw];simp,fun hf=>?_,fun ho=>?_⟩,fun i j I ab=>?_⟩) (fun i j I ab=>(WaW (ad i j) I ab).2))
     ·intro r hr
      rw[WbC hr,h4]
     ·have:=hE.frlt _ hf;omega
     ·have h1:E.own E.w.heap.size:=by
       obtain⟨i,y,q1,q2,q3⟩:=ho;exact⟨i,y,q1,(zbj (E:=E) (E':=⟨w',E.Fr,E.bd,E.H⟩) rfl).1 q2,q3⟩
      have:=hE.own_lt h1;omega
     ·have ae:∀y,arr[i*s+j]? =some y->w'.cell? ⟨E.w.heap.size,0+(i*s+j),none⟩=some y:=by
       intro y hy;rw[hw];simp only[World.cell?,heap_alloc_new E.w];simpa using hy
      exact ae _ (WaW (ad i j) I ab).1
    ·rintro aa
     obtain⟨w',arr,U,hw,o3,o5⟩:=main aa;obtain⟨h0,h1,h2,h3,h4⟩:=aa
     obtain⟨E',an,hH,hv,hh,tr⟩:=z2t hE (w1:=E.w) rfl rfl rfl rfl (fun _ _=>rfl) (arr:=arr) (ty:=e) (s:=s) (n:=l.toNat) (cap:=c.toNat)
      (rows:=List.replicate l.toNat zs) (by simp) (by omega) o3 (by simp only[lim]at*;omega) (fun r hr=>by rw[WbC hr,h4]) o5
     exact⟨trivial,_,E',by rw[an,<-hw];exact U,hH,hv,hh,tr⟩
   ·exact .bad
  ·exact .bad
 ·exact .bad
open Go.Lib in
theorem yfm {P:Program} {E:Env} (hE:HRel E) {z:Bool} {s d:TypeId} {x:V} {vx:Value} (hx:VRel E x vx):Good P E (convert s d vx) (z6i P z s d x E.H):=by
 unfold z6i
 cases z with
 |false=>exact yfn hE hx
 |true=>
  simp only;split
  case h_2=>exact .bad
  rename_i b
  have hx:=one_inv hx
  cases hx with
  | @str _ ba hb hl=>
  split
  case h_2=>exact .bad
  rename_i u e hs hd;split
  case h_2=>exact .bad
  rename_i he;intro _
  have hsz:ba.size=b.length:=by show ba.data.size=b.length;rw[<-hb,Wbb]
  have hcut:ba.size<=grownCap E.w ba.size 0 e:=grownCap_ge E.w ba.size 0 e
  obtain⟨t,hh⟩:=zi9 hE (bytesWorld E.w e ba) (by rw[bytesWorld_size];omega) rfl rfl rfl (fun i hi=>bytesWorld_at_old E.w e ba i hi)
  have hrow:∀i j c,at2 (zog b) i j=some c->∃x:UInt8,b[i]? =some x/\j=0/\c=.int .u8 (x.toNat:Int):=by
   intro i j c hij;obtain⟨r,hr,hj⟩:=at2_some.1 hij;simp only[zog,zwd,Wbo,Wao,Wal,Function.comp_def]at hr;obtain⟨x,hx,rfl⟩:=hr
   have hj0:j=0:=by
    have:=(Wag.1 hj).1;simp at this;omega
   subst hj0;simp at hj;exact⟨x,hx,rfl,hj.symm⟩
  have hlen:(zog b).length=b.length:=by simp[zog,zwd]
  refine⟨trivial,_,{E with w:=bytesWorld E.w e ba},run_convert_string_bytes E.w s d e ba hs hd he,rfl,.one (.sl (fun i _=>.int .u8 ((b.getD i 0).toNat:Int)) 1 (by rw[hlen,hsz]) (by rw[hlen,<-hsz];exact hcut) (by rw[hlen];exact hl) ?_ ?_ ?_),hh,t⟩
  ·intro r hr;obtain⟨x,_,rfl⟩:=Wau.1 hr;rfl
  ·intro _
   refine⟨E.w.heap.size,0,rfl,⟨?_,?_,?_⟩,?_⟩
   ·show _<(bytesWorld E.w e ba).heap.size
    rw[bytesWorld_size];omega
   ·intro h;have:=hE.frlt _ h;omega
   ·rintro⟨i,o,h1,h2,h3⟩
    have:=hE.own_lt ⟨i,o,h1,(zbj (E:=E) (E':={E with w:=bytesWorld E.w e ba}) rfl).1 h2,h3⟩
    omega
   ·intro i j c hij
    obtain⟨x,hx,rfl,rfl⟩:=hrow i j c hij
    have hR:RowAt (bytesWorld E.w e ba) E.w.heap.size (bytesCells E.w e ba) e:=⟨_,bytesWorld_at_new E.w e ba,.inr (Wae _)⟩
    show(bytesWorld E.w e ba).cell? _=_
    rw[hR.cell?]
    have hd:ba.data[i]? =some x:=by rw[<-Array.getElem?_toList,hb];exact hx
    have hlt:i<ba.data.size:=(Was.1 hd).1
    have hs':i<ba.size:=hlt
    have h2:=(Was.1 hd).2
    have h3:b.getD i 0=x:=by simp[List.getD_eq_getElem?_getD,hx]
    rw[h3];simp[bytesCells,Wb1,hs'];exact congrArg (fun y:UInt8=>(y.toNat:Int)) h2
  ·intro i j c hij
   obtain⟨x,hx,rfl,rfl⟩:=hrow i j c hij
   have h3:b.getD i 0=x:=by simp[List.getD_eq_getElem?_getD,hx]
   simp only[h3];refine .int ?_
   have:=x.toNat_lt
   simp[IntKind.min,IntKind.max,IntKind.signed,IntKind.bits];omega
end Go.Lz

end
section
namespace Go.Lz
theorem z01 {E:Env} {d:Nat} {x:Option V} {v:Option Value} {n:Int} (h:bnd d x=some n) (I:∀y,x=some y->∃u,v=some u/\VRel E y u) (hn:x=none->v=none):
  (x=none/\v=none/\n=d)\/(∃k,v=some (.int k n)):=by
 cases x with
 |none=>simp[bnd]at h;exact .inl ⟨rfl,hn rfl,h.symm⟩
 |some y=>
  obtain⟨u,rfl,hu⟩:=I y rfl;unfold bnd at h;split at h
  ·simp_all
  ·rename_i k m hy
   cases hy;cases h;obtain⟨rfl,_⟩:=int_inv (one_inv hu);exact .inr ⟨_,rfl⟩
  ·simp at h
theorem zps {P:Program} {w:World} {k:IntKind} {n:Int} {y:Nat} (code:BoundsCode) (h:0<=n/\n<=y):(Instr.sliceBound (.int k n) y code).run P w=.ok n.toNat w:=by
 simp[Instr.sliceBound,asIntOf,h]
theorem zrw {P:Program} {w:World} {E:Env} (isSlice:Bool) {len cap:Nat} {lo hi:Option V} {I U:Option Value} {l h:Int} (aa:bnd 0 lo=some l) (ab:bnd len hi=some h)
  (ad:∀y,lo=some y->∃u,I=some u/\VRel E y u) (ae:lo=none->I=none) (af:∀y,hi=some y->∃u,U=some u/\VRel E y u) (ai:hi=none->U=none)
  (h0:0<=l) (h1:l<=h) (h2:h<=cap):(Instr.sliceBounds isSlice len cap I U none).run P w=.ok (l.toNat,h.toNat,cap) w:=by
 rcases z01 aa ad ae with⟨_,rfl,rfl⟩|⟨k,rfl⟩<;>rcases z01 ab af ai with⟨_,rfl,rfl⟩|⟨k',rfl⟩
 ·simp[Instr.sliceBounds]
 ·simp[Instr.sliceBounds,zps _ (show 0<=h/\h<=cap by omega)]
 ·simp[Instr.sliceBounds,zps _ (show 0<=l/\l<=len by omega)]
 ·have:(l:Int)<=(h.toNat:Int):=by omega
  simp[Instr.sliceBounds,zps _ (show 0<=h/\h<=cap by omega),zps _ (show 0<=l/\l<=(h.toNat:Int) by omega)]
theorem z6q {P:Program} {w:World} {E:Env} (isSlice:Bool) {len cap:Nat} {lo hi:Option V} {I U:Option Value} {l h m:Int} {km:IntKind} (ab:bnd 0 lo=some l) (ad:bnd len hi=some h) (aa:hi≠none)
  (ae:∀y,lo=some y->∃u,I=some u/\VRel E y u) (af:lo=none->I=none) (ai:∀y,hi=some y->∃u,U=some u/\VRel E y u) (aj:hi=none->U=none)
  (h0:0<=l) (h1:l<=h) (h2:h<=m) (h3:m<=cap):(Instr.sliceBounds isSlice len cap I U (some (.int km m))).run P w=.ok (l.toNat,h.toNat,m.toNat) w:=by
 have e1:=fun c=>zps (P:=P) (w:=w) (k:=km) (y:=cap) c (show 0<=m/\m<=cap by omega)
 have e2:=fun k c=>zps (P:=P) (w:=w) (k:=k) (y:=m.toNat) c (show 0<=h/\h<=(m.toNat:Int) by omega)
 have e3:=fun k c=>zps (P:=P) (w:=w) (k:=k) (y:=h.toNat) c (show 0<=l/\l<=(h.toNat:Int) by omega)
 rcases z01 ad ai aj with⟨e,_⟩|⟨k',rfl⟩
 ·exact(aa e).elim
 ·rcases z01 ab ae af with⟨_,rfl,rfl⟩|⟨k,rfl⟩
  ·simp[Instr.sliceBounds,e1,e2]
  ·simp[Instr.sliceBounds,e1,e2,e3]
theorem yf1 {E:Env} {rows:List (List C)} {a:Option Addr} {n cap s l h m:Nat} (hc:CRel E (.sl rows) (.slice a n cap)) (hs:∀r∈rows,r.length=s) (h1:l<=h) (h2:h<=rows.length) (h3:h<=m) (h4:m<=cap):
  CRel E (.sl ((rows.take h).drop l)) (.slice (if m=l then a else a.map (·.add (l*s))) (h-l) (m-l)):=by
 cases hc with
 |sl vals sz hn hcap hlim hsz hb hv=>
  have hlen:((rows.take h).drop l).length=h-l:=by simp;omega
  have key:∀i j c,at2 ((rows.take h).drop l) i j=some c->at2 rows (l+i) j=some c:=by
   intro i j c I;obtain⟨r,hr,hj⟩:=at2_some.1 I;rw[Wa0,WaQ]at hr;split at hr
   ·exact at2_some.2 ⟨r,hr,hj⟩
   ·cases hr
  refine .sl (fun i j=>vals (l+i) j) sz hlen.symm (by omega) (by omega) (fun r hr=>hsz r (Wa2 (Wa5 hr))) (fun ad=>?_) (fun i j c I=>hv _ _ _ (key i j c I))
  have ae:l<h:=by
   rcases WaG l h with hh|hh
   ·exact hh
   ·exact(ad (WaJ (by omega))).elim
  have U:rows≠[]:=by intro e;simp[e]at h2;omega
  obtain⟨b,off,rfl,hf,aa⟩:=hb U;obtain⟨r0,ab⟩:=List.exists_mem_of_ne_nil _ U
  have e:sz=s:=by rw[<-hsz r0 ab,hs r0 ab]
  subst e;refine⟨b,off+l*sz,?_,hf,fun i j c I=>?_⟩
  ·rw[if_neg (by omega)];simp[zti]
  ·have:=aa _ _ _ (key i j c I)
   rw[Wav]at this;simpa [Waz]using this
def z6w (E:Env) (x:Option V) (v:Option Value):Prop:=(∀y,x=some y->∃u,v=some u/\VRel E y u)/\(x=none->v=none)
theorem zy4 {P:Program} {E:Env} (hE:HRel E) {t:TypeId} {rows:List (List C)} {vx:Value} {lo hi mx:Option V} {ab ad ae:Option Value} (hx:CRel E (.sl rows) vx)
  (I:z6w E lo ab) (U:z6w E hi ad) (af:z6w E mx ae) (ai:mx≠none->hi≠none):Good P E (Instr.sliceAt t vx ab ad ae) (zln P t rows lo hi mx E.H):=by
 obtain⟨a,cap,rfl,hcap,hlim⟩:=zy5 hx;unfold zln;split
 ·rename_i e s b l h ht hl hh
  obtain⟨ie,hu,aa,hs,_⟩:=zi1 ht
  have hv:=af.2 rfl
  subst hv;refine .same hE fun⟨h0,h1,h2,h3⟩=>⟨trivial,?_⟩
  have hb:=zrw (P:=P) (w:=E.w) true (cap:=cap) hl hh I.1 I.2 U.1 U.2 h0 h1 (by omega)
  refine⟨_,?_,rfl,.one (yf1 (m:=cap) hx h3 (by omega) (by omega) (by omega) (Wae _))⟩;simp[Instr.sliceAt,Instr.slice,run_underlying hu,hb,zeh aa,hs]
 ·rename_i e s b m l h ht hl hh
  obtain⟨ie,hu,aa,hs,_⟩:=zi1 ht;split
  ·rename_i m' hm
   obtain⟨u,rfl,aj⟩:=af.1 m rfl
   rcases z01 (E:=E) hm (fun y hy=>by cases hy;exact⟨u,rfl,aj⟩) (by simp)with⟨e,_⟩|⟨km,ak⟩
   ·cases e
   ·cases ak
    refine .same hE fun⟨h0,h1,h2,h3,h4⟩=>⟨trivial,?_⟩
    have hb:=z6q (P:=P) (w:=E.w) true (cap:=cap) (km:=km) (m:=m') hl hh (ai (by simp)) I.1 I.2 U.1 U.2 h0 h1 (by omega) (by omega)
    refine⟨_,?_,rfl,.one (.slf (yf1 (m:=m'.toNat) hx h4 (by omega) (by omega) (by omega) (by omega)) ⟨if m'.toNat=l.toNat then a else a.map (·.add (l.toNat*s)),?_⟩)⟩
    ·simp[Instr.sliceAt,Instr.slice,run_underlying hu,hb,zeh aa,hs]
    ·congr 1
     ·simp;omega
     ·simp;omega
  ·exact .bad
 ·exact .bad
theorem z68 {P:Program} {t:TypeId} {n:Nat} (h:tPa P t=some n):∃e i,P.underlying t=some (.array n e)/\P.info? e=some i/\i.size=1:=by
 unfold tPa at h;split at h
 ·rename_i m e s hr
  split at h
  ·rename_i h1
   cases h;obtain⟨i,ha,hi,I⟩:=zzs hr;exact⟨e,i,ha,hi,by rw[I,h1]⟩
  ·cases h
 ·cases h
theorem yb5 {E:Env} {row:List C} {off:Nat} {v:Value} (h:CRel E (.iptr row off) v):∃(b o:Nat) (vals:Nat->Value),v=.pointer (some ⟨b,o+off,none⟩)/\E.free b/\(∀j c,row[j]? =some c->E.w.cell? ⟨b,o+j,none⟩=some (vals j))/\∀j c,row[j]? =some c->CRel E c (vals j):=by
 cases h with
 |iptr vals he hb hc hv=>exact⟨_,_,vals,he,hb,hc,hv⟩
theorem yd7 {E:Env} {id ver off cur sz:Nat} {row:List C} {v:Value} (h:CRel E (.ref id ver 0 off) v) (I:E.H[id]? =some (.cells cur sz [row])) (hv:ver=cur:=by rfl):
  v=.pointer (some ⟨(E.bd id).blk,(E.bd id).off+off,none⟩):=by
 cases h with
 |ref hid hc U=>simpa using(U cur sz [row] I).2 hv
theorem yae {P:Program} {E:Env} (hE:HRel E) {t:TypeId} {x:V} {vx:Value} {lo hi mx:Option V} {aw ax ay:Option Value} (hx:VRel E x vx)
  (ab:z6w E lo aw) (ad:z6w E hi ax) (aj:z6w E mx ay) (az:mx≠none->hi≠none):Good P E (Instr.sliceAt t vx aw ax ay) (z0a P t x lo hi mx E.H):=by
 unfold z0a;split
 ·rename_i s
  split
  ·rename_i ht
   split
   ·rename_i l h hl hh
    have hv:=aj.2 rfl
    subst hv;obtain⟨b,rfl,hb,hlim⟩:=str_inv (one_inv hx)
    have hsz:b.size=s.length:=by rw[<-hb];rfl
    refine .same hE fun⟨h0,h1,h2⟩=>⟨trivial,?_⟩
    have al:=zrw (P:=P) (w:=E.w) false (cap:=b.size) (len:=b.size) hl (by rw[hsz];exact hh) ab.1 ab.2 ad.1 ad.2 h0 h1 (by omega)
    refine⟨.string (b.extract l.toNat h.toNat),?_,rfl,.one (.str ?_ ?_)⟩
    ·simp[Instr.sliceAt,Instr.slice,run_underlying (zrx ht),al]
    ·rw[<-hb]
     simp only[ByteArray.data_extract,Array.toList_extract,List.extract_eq_take_drop];rw[List.drop_take]
    ·simp;omega
   ·exact .bad
  ·exact .bad
 ·exact zy4 hE (one_inv hx) ab ad aj az
 ·exact zy4 hE (zlh (one_inv hx)).1 ab ad aj az
 ·rename_i row off
  split
  case h_2=>exact .bad
  rename_i n l hn hl;split
  case h_2=>exact .bad
  rename_i h hh
  have hv:=aj.2 rfl
  subst hv;obtain⟨e,i,hu,hi,hs⟩:=z68 hn;refine .same hE fun⟨p0,p1,p2,p3,p4⟩=>⟨trivial,?_⟩;obtain⟨b,o,vals,aq,hb,hc,aF⟩:=yb5 (one_inv hx);subst aq
  have al:=zrw (P:=P) (w:=E.w) false (cap:=n) (len:=n) hl hh ab.1 ab.2 ad.1 ad.2 p0 p1 (by omega)
  have ae:∀k c,(((((row.drop off).take n).map fun c=>[c]).take h.toNat).drop l.toNat)[k]? =some c->∃x,c=[x]/\row[off+(l.toNat+k)]? =some x:=by
   intro k c I;rw[Wa0,WaQ]at I;split at I
   ·rw[Wao,WaQ]at I
    split at I
    ·rw[Wa0]at I
     simp only[Wal]at I;obtain⟨x,aa,rfl⟩:=I;exact⟨x,rfl,aa⟩
    ·simp at I
   ·cases I
  have hlen:(((((row.drop off).take n).map fun c=>[c]).take h.toNat).drop l.toNat).length=h.toNat-l.toNat:=by
   simp;omega
  refine⟨.slice (some (if n=l.toNat then⟨b,o+off,none⟩else Addr.add ⟨b,o+off,none⟩ (l.toNat*1))) (h.toNat-l.toNat) (n-l.toNat),?_,rfl,.one (.sl (fun k _=>vals (off+(l.toNat+k))) 1 hlen.symm (by rw[hlen];omega) (by rw[hlen];omega) ?_ ?_ ?_)⟩
  ·simp[Instr.sliceAt,run_underlying hu,Instr.sureAddr,al,zeh hi,hs]
  ·intro r hr
   obtain⟨k,I⟩:=WbJ hr;obtain⟨x,rfl,_⟩:=ae k r I;rfl
  ·intro ar
   have au:l.toNat<n:=by
    have:(((((row.drop off).take n).map fun c=>[c]).take h.toNat).drop l.toNat).length≠0:=fun h0=>ar (WaJ h0)
    rw[hlen]at this;omega
   refine⟨b,o+off+l.toNat,by rw[if_neg (by omega)];simp[Addr.add],hb,fun k j c af=>?_⟩;obtain⟨r,hr,U⟩:=at2_some.1 af;obtain⟨x,rfl,aa⟩:=ae k r hr
   have ai:j=0:=by
    have:=(Wag.1 U).1
    simpa using this
   subst ai
   have:=hc _ _ aa
   rw[show o+off+l.toNat+(k*1+0)=o+(off+(l.toNat+k)) by omega];exact this
  ·intro k j c af
   obtain⟨r,hr,U⟩:=at2_some.1 af;obtain⟨x,rfl,aa⟩:=ae k r hr
   have ai:j=0:=by
    have:=(Wag.1 U).1
    simpa using this
   subst ai;simp at U;subst U;exact aF _ _ aa
 ·rename_i id ver off
  split
  case h_2=>exact .bad
  rename_i n l cur sz row hn hl ho;split
  case h_2=>exact .bad
  rename_i h hh
  have hv:=aj.2 rfl
  subst hv;obtain⟨e,i,hu,hi,hs⟩:=z68 hn;intro ⟨ao,p0,p1,p2,p3,p4⟩;refine⟨trivial,?_⟩;subst ao
  have aq:=yd7 (one_inv hx) ho
  subst aq;obtain⟨q1,_,q2,q3⟩:=hE.obj id _ ho;simp at q1
  have ak:E.live id (.cells ver sz [row]):=by simp only[Env.live];omega
  obtain⟨arr,ty,aA,hsz,av⟩:=q3 ak
  have aK:row.length=sz:=q2 row (by simp)
  obtain⟨tr,aG⟩:=zof hE id (.cells ver sz [row]) .dead E.w (E.bd id) ho (Wae _) rfl rfl rfl (fun _ _ _=>rfl) (by simp) (by simp) ⟨E.w,E.Fr,fun i=>if i=id then E.bd id else E.bd i,E.H.set id .dead⟩ rfl (by simp[Env.live])
  have aH:=aG trivial
  have au:id<E.H.length:=(Wag.1 ho).1
  have hb:Env.free ⟨E.w,E.Fr,fun i=>if i=id then E.bd id else E.bd i,E.H.set id .dead⟩ (E.bd id).blk:=by
   refine⟨aA.lt,hE.nofr id _ ho ak,fun⟨j,o,U,aB,aC⟩=>?_⟩;simp only at U
   by_cases an:j=id
   ·subst an
    rw[WaU au]at U;cases U;exact aB
   ·rw[WaT (Ne.symm an)]at U
    simp only[if_neg an]at aC;refine hE.dist j id _ _ U ho ?_ ak an aC;cases o<;>simp[Env.live,an]at aB|-<;>assumption
  obtain⟨f,hf⟩:∃f:Nat->Value,∀j c,row[j]? =some c->arr[(E.bd id).off+j]? =some (f j)/\CRel E c (f j):=by
   refine⟨fun j=>arr.getD ((E.bd id).off+j) undef,fun j c U=>?_⟩;obtain⟨v,hv,hr⟩:=av 0 j c (at2_some.2 ⟨row,rfl,U⟩);rw[Nat.zero_mul,Wbd]at hv
   have:arr.getD ((E.bd id).off+j) undef=v:=by simp[Wah,hv]
   simp only[this];exact⟨hv,hr⟩
  have al:=zrw (P:=P) (w:=E.w) false (cap:=n) (len:=n) hl hh ab.1 ab.2 ad.1 ad.2 p0 p1 (by omega)
  have ae:∀k c,(((((row.drop off).take n).map fun c=>[c]).take h.toNat).drop l.toNat)[k]? =some c->∃x,c=[x]/\row[off+(l.toNat+k)]? =some x:=by
   intro k c I;rw[Wa0,WaQ]at I;split at I
   ·rw[Wao,WaQ]at I
    split at I
    ·rw[Wa0]at I
     simp only[Wal]at I;obtain⟨x,aa,rfl⟩:=I;exact⟨x,rfl,aa⟩
    ·simp at I
   ·cases I
  have hlen:(((((row.drop off).take n).map fun c=>[c]).take h.toNat).drop l.toNat).length=h.toNat-l.toNat:=by
   simp;omega
  refine⟨.slice (some (if n=l.toNat then⟨(E.bd id).blk,(E.bd id).off+off,none⟩else Addr.add ⟨(E.bd id).blk,(E.bd id).off+off,none⟩ (l.toNat*1))) (h.toNat-l.toNat) (n-l.toNat),_,?_,rfl,.one (.sl (fun k _=>f (off+(l.toNat+k))) 1 hlen.symm (by rw[hlen];omega) (by rw[hlen];omega) ?_ ?_ ?_),aH,tr⟩
  ·simp[Instr.sliceAt,run_underlying hu,Instr.sureAddr,al,zeh hi,hs]
  ·intro r hr
   obtain⟨k,I⟩:=WbJ hr;obtain⟨x,rfl,_⟩:=ae k r I;rfl
  ·intro ar
   have au:l.toNat<n:=by
    have:(((((row.drop off).take n).map fun c=>[c]).take h.toNat).drop l.toNat).length≠0:=fun h0=>ar (WaJ h0)
    rw[hlen]at this;omega
   refine⟨(E.bd id).blk,(E.bd id).off+off+l.toNat,by rw[if_neg (by omega)];simp[Addr.add],hb,fun k j c af=>?_⟩;obtain⟨r,hr,U⟩:=at2_some.1 af;obtain⟨x,rfl,aa⟩:=ae k r hr
   have ai:j=0:=by
    have:=(Wag.1 U).1
    simpa using this
   subst ai
   have:=(hf _ _ aa).1
   rw[show(E.bd id).off+off+l.toNat+(k*1+0)=(E.bd id).off+(off+(l.toNat+k)) by omega,aA.cell?];exact this
  ·intro k j c af
   obtain⟨r,hr,U⟩:=at2_some.1 af;obtain⟨x,rfl,aa⟩:=ae k r hr
   have ai:j=0:=by
    have:=(Wag.1 U).1
    simpa using this
   subst ai;simp at U;subst U;exact((hf _ _ aa).2).trans tr
 ·rename_i id ver l0 h0
  split
  ·rename_i e s b l h cur sz rows ht hl hh ho
   obtain⟨ie,hu,aD,hs,_⟩:=zi1 ht
   have hv:=aj.2 rfl
   subst hv;refine .same hE fun⟨ao,aI,p0,p1,p2⟩=>⟨trivial,?_⟩;obtain⟨q1,q2,a,cap,rfl,hcap,ha⟩:=zpf (one_inv hx) ho ao;obtain⟨aN,_⟩:=hE.obj id _ ho
   have hb:=zrw (P:=P) (w:=E.w) true (cap:=cap) (len:=h0-l0) hl hh ab.1 ab.2 ad.1 ad.2 p0 p1 (by omega)
   refine⟨.slice (a.map fun a=>if cap=l.toNat then a else a.add (l.toNat*s)) (h.toNat-l.toNat) (cap-l.toNat),?_,rfl,.one (.msl (Wag.1 ho).1 rfl fun aL sz' aJ aE=>?_)⟩
   ·cases a with
    |none=>simp only[Instr.sliceAt,run_underlying hu,Sem.run_bind,Result.andThen_ok,Instr.slice,hb,zeh aD,hs,Sem.run_pure,Option.map_none,ite_self]
    |some a=>
     simp only[Instr.sliceAt,run_underlying hu,Sem.run_bind,Result.andThen_ok,Instr.slice,hb,zeh aD,hs,Sem.run_pure,Wbq];split<;>rfl
   ·rw[ho]at aE
    cases aE
    refine⟨by omega,fun _=>⟨by omega,by omega,(a.map fun a=>if cap=l.toNat then a else a.add (l.toNat*s)),cap-l.toNat,?_,by omega,fun aM=>?_⟩⟩
    ·congr 1;omega
    ·rw[ha (by omega),Wbq,if_neg (by omega),zti,aI]
     congr 2
     rw[Wav];omega
  ·exact .bad
 ·exact .bad
theorem z15 {a b:List (List C)} {i j:Nat} {c:C} (h:at2 (a++b) i j=some c):(i<a.length/\at2 a i j=some c)\/(a.length<=i/\at2 b (i-a.length) j=some c):=by
 obtain⟨r,hr,I⟩:=at2_some.1 h;rw[Wbm]at hr;split at hr
 ·exact .inl ⟨by assumption,at2_some.2 ⟨r,hr,I⟩⟩
 ·exact .inr ⟨by omega,at2_some.2 ⟨r,hr,I⟩⟩
theorem z04 {rows:List (List C)} {i j s:Nat} {c:C} (h:at2 rows i j=some c) (I:∀r∈rows,r.length=s):i<rows.length/\j<s:=by
 obtain⟨r,hr,U⟩:=at2_some.1 h;refine⟨(Wag.1 hr).1,?_⟩
 have:=(Wag.1 U).1
 rw[I r (Wad hr)]at this;exact this
theorem zku {i n s j:Nat} (hi:i<n) (I:j<s):i*s+j<n*s:=by
 have:=WaH s hi;rw[Wbc]at this;omega
theorem yhq {P:Program} {E:Env} {s:Nat} {U:TypeId} {v:Value} {rows:List (List C)} (h:SrcOk P E s v rows) (hk:(∃e',P.underlying U=some (.slice e'))\/P.underlying U=some .string):
  ∃news:List Value,Src P s U v rows.length news E.w/\∀i j c,at2 rows i j=some c->j<s->∃y,news[i*s+j]? =some y/\CRel E c y:=by
 obtain⟨f,h1,h2,h3⟩:=h.cells rows.length (Wae _);refine⟨(List.range (rows.length*s)).map f,⟨hk,h.len,h1 _ (fun _=>rfl),h1 _ (fun _=>rfl),by simp,fun u hu=>?_⟩,fun i j c I hj=>?_⟩
 ·simp at hu
  obtain⟨m,hm,rfl⟩:=hu;exact h3 m hm
 ·have hi:i<rows.length:=by obtain⟨r,hr,_⟩:=at2_some.1 I;exact(Wag.1 hr).1
  refine⟨f (i*s+j),?_,h2 i j c hi I⟩;simp[zku hi hj]
end Go.Lz

end
section
namespace Go.Lz
theorem ymg (n:Nat) (h:n<=281474976710656):IntKind.i64.min<=(n:Int)/\(n:Int)<=IntKind.i64.max:=by
 simp[IntKind.min,IntKind.max,IntKind.signed,IntKind.bits];omega
theorem yk8 {P:Program} {I:TypeId} (h:((tSl P I).isSome||zy1 P I)=true):(∃U,P.underlying I=some (.slice U))\/P.underlying I=some .string:=by
 rw[WaE]at h
 rcases h with h|h
 ·obtain⟨⟨e,s,b⟩,hp⟩:=Wb3.1 h
  obtain⟨i,hu,_⟩:=zi1 hp;exact .inl ⟨e,hu⟩
 ·exact .inr (zrx h)
theorem z4v {E:Env} {old new:List (List C)} {olds news:List Value} {s:Nat} {z:Array Value} (k:Nat) (ho:olds.length=old.length*s) (U:∀r∈old,r.length=s) (aa:∀r∈new,r.length=s) (hn:news.length=new.length*s)
  (h1:∀i j c,at2 old i j=some c->∃y,olds[i*s+j]? =some y/\CRel E c y) (h2:∀i j c,at2 new i j=some c->j<s->∃y,news[i*s+j]? =some y/\CRel E c y):
  ∀i j c,at2 (old++new) i j=some c->∃v,((olds++news).toArray++z)[i*s+j]? =some v/\CRel E c v:=by
 intro i j c ab
 rcases z15 ab with⟨hi,h⟩|⟨hi,h⟩
 ·obtain⟨_,I⟩:=z04 h U
  obtain⟨y,hy,hr⟩:=h1 i j c h
  have ad:=zku hi I
  refine⟨y,?_,hr⟩;rw[Wbe (by simp;omega)];simpa [Wa8 (show i*s+j<olds.length by omega)]using hy
 ·obtain⟨ae,I⟩:=z04 h aa
  obtain⟨y,hy,hr⟩:=h2 _ j c h I
  have ad:=zku ae I
  have e:i*s+j=old.length*s+((i-old.length)*s+j):=by
   have:i=old.length+(i-old.length):=by omega
   rw[<-Waz,<-Wav,<-this]
  refine⟨y,?_,hr⟩;rw[Wbe (by simp;omega),e];simp only[Wa6];rw[WbD (by omega),ho,WbK];exact hy
theorem z16 {P:Program} {E:Env} (hE:HRel E) {ts:Array TypeId} {ty:TypeId} {sx x:V} {vs vx:Value} (hs:VRel E sx vs) (hx:VRel E x vx):Good P E (Builtin.append_ ts ty #[vs,vx]) (ztg P ts sx x E.H):=by
 unfold ztg;split
 case h_2=>exact .bad
 rename_i t tx h0 h1;split
 case h_2=>exact .bad
 rename_i e sz b xc ht hk;split
 case h_2=>exact .bad
 rename_i z new p hz ay;split
 case h_2=>exact .bad
 rename_i zs a8;obtain⟨I,hu,av,hsz,aT⟩:=zi1 ht;obtain⟨i,zv,hi,aU,aI,bm⟩:=zx7 (P:=P) (E:=E) hz a8;rw[av]at hi;cases hi
 have ae:=yk8 hk
 have a9:Builtin.append_ ts ty #[vs,vx]=Builtin.append_ #[t,tx] ty #[vs,vx]:=by simp only[Builtin.append_,h0,h1];rfl
 rw[a9]
 have aJ:=one_inv hx
 split
 ·--a4 a slice a7 spare room
  rename_i old;split
  ·--nothing is az
   rename_i aC
   have ai:new=[]:=Wbr.1 aC
   rintro⟨hp,aD,ar⟩;refine⟨trivial,?_⟩
   have src:=zpa (P:=P) hE aJ ay hp (by subst ai;simp) ar
   obtain⟨news,U,aj⟩:=yhq src ae;obtain⟨ba,a,rfl⟩:=zlh (one_inv hs)
   have aK:news=[]:=WaJ (by rw[U.newsLen,ai];simp)
   subst aK;subst hsz
   have hm:new.length=0:=by simp[ai]
   have aV:=U.cells
   have aW:=U.len
   rw[hm]at aV aW
   have ad:(Builtin.append_ #[t,tx] ty #[.slice a old.length old.length,vx]).run P E.w=.ok (.slice a old.length old.length) E.w:=by
    rcases ae with⟨e',al⟩|al<;>cases a<;>simp[Builtin.append_,run_underlying hu,run_underlying al,sizeOf,typeInfo,av,aW,aV,storeCells]
   exact⟨_,E,ad,rfl,hs,hE,Trans.refl E⟩
  rename_i aC
  have aE:new≠[]:=fun h=>by rw[h]at aC;simp at aC
  rintro⟨hp,au,hlim,aD,ar,ao,af⟩;refine⟨trivial,?_⟩
  have src:=zpa (P:=P) hE aJ ay hp ao ar
  obtain⟨news,U,aj⟩:=yhq src ae;obtain⟨ba,a,rfl⟩:=zlh (one_inv hs)
  have aw:=zpa (P:=P) hE (one_inv hs) (show zm8 E.H (.slf old)=some (old,True)from rfl) trivial af ar
  obtain⟨f,aL,aM,bb⟩:=aw.cells old.length (Wae _)
  have bn:0<new.length:=List.length_pos_iff.2 aE
  subst hsz;subst aT
  have aR:old.length+new.length<=281474976710656:=hlim
  have ad:=run_append_grow_src (P:=P) E.w t tx ty e I zv hu av aU a old.length old.length ((List.range (old.length*I.size)).map f)
   (aL E.w.drew (fun _=>rfl)) vx new.length news U (by omega) (by omega) (growslice_fits (by omega) au)
  have hcap:=grownCap_ge E.w (old.length+new.length) old.length e
  obtain⟨E',hw,hH,hv,hh,tr⟩:=z2t hE (w1:=E.w.drew) rfl rfl rfl rfl (fun _ _=>rfl)
   (arr:=(((List.range (old.length*I.size)).map f)++news).toArray++Builtin.zeroCells zv.cells (grownCap E.w (old.length+new.length) old.length e-(old.length+new.length))) (ty:=e) (s:=I.size)
   (n:=old.length+new.length) (cap:=grownCap E.w (old.length+new.length) old.length e) (rows:=old++new) (by simp) hcap
   (by
     simp only[Array.size_append,List.size_toArray,Wai,Waq,List.length_range,size_zeroCells,aI,aD,U.newsLen];rw[<-Wav,<-Wav]
     exact WaH _ (by omega))
   hlim (by intro r hr;rcases WaN.1 hr with h|h;exact af r h;exact ao r h)
   (z4v 0 (by simp) af ao U.newsLen
     (fun i j c ab=>by
       obtain⟨hi,hj⟩:=z04 ab af
       exact⟨f (i*I.size+j),by simp[zku hi hj],aM i j c hi ab⟩) aj)
  exact⟨_,E',by rw[hw];exact ad,hH,hv,hh,tr⟩
 ·--a4 an own slice
  rename_i id ver lo hi;split
  case h_2=>exact .bad
  rename_i cur sz' rows ho;rintro⟨hp,aN,bc,a5,au,hlim,aD,ar,ao⟩;subst a5
  have src:=zpa (P:=P) hE aJ ay hp ao ar
  obtain⟨news,U,aj⟩:=yhq src ae;obtain⟨bf,_,a,cap,rfl,hcap,ha⟩:=zpf (one_inv hs) ho aN;obtain⟨g3,g4,g5,g7⟩:=hE.obj id _ ho;refine⟨bf,?_⟩;subst hsz;subst aT;subst bc
  have aR:rows.length-lo+new.length<=281474976710656:=hlim
  have aX:(rows.drop lo).length=rows.length-lo:=by simp
  have aF:∀i j c,at2 (rows.drop lo) i j=some c->at2 rows (lo+i) j=some c:=by
   intro i j c ab;obtain⟨r,hr,hj⟩:=at2_some.1 ab;rw[Wa0]at hr;exact at2_some.2 ⟨r,hr,hj⟩
  have af:∀r∈rows.drop lo,r.length=I.size:=fun r hr=>g5 r (Wa5 hr)
  have aA:∀r∈rows.drop lo++new,r.length=I.size:=by intro r hr;rcases WaN.1 hr with h|h;exact af r h;exact ao r h
  by_cases aG:rows.length-lo+new.length<=cap
  ·by_cases hm:new.length=0
   ·--nothing is az
    have aK:news=[]:=WaJ (by rw[U.newsLen,hm];simp)
    have ai:new=[]:=WaJ hm
    subst aK
    have ad:(Builtin.append_ #[t,tx] ty #[.slice a (rows.length-lo) cap,vx]).run P E.w=.ok (.slice a (rows.length-lo+new.length) cap) E.w:=by
     rcases ae with⟨e',al⟩|al<;>cases a<;>simp[Builtin.append_,run_underlying hu,run_underlying al,sizeOf,typeInfo,av,U.len,aG,U.cells,storeCells]
    obtain⟨tr,hh⟩:=zof hE id _ (.cells (cur+1) I.size (rows.drop lo++new)) E.w ⟨(E.bd id).blk,(E.bd id).off+lo*I.size,cap⟩ ho (Wae _) rfl rfl rfl (fun _ _ _=>rfl)
     (fun aO sz' ak e=>by cases e;exact⟨cur,I.size,rows,rfl,by omega,fun h=>by omega⟩) (fun aY e=>by cases e) _ rfl
     (fun hl=>.inl ⟨by simp only[Env.live,if_true]at hl;show(E.bd id).cap≠0;omega,rfl⟩)
    refine⟨_,⟨E.w,E.Fr,fun i=>if i=id then⟨(E.bd id).blk,(E.bd id).off+lo*I.size,cap⟩else E.bd i,E.H.set id (.cells (cur+1) I.size (rows.drop lo++new))⟩,ad,rfl,?_,hh ?_,tr⟩
    ·refine .one (.msl (by simp;exact(Wag.1 ho).1) rfl fun aP sz' ak aq=>?_)
     rw[WaU (Wag.1 ho).1]at aq;cases aq;refine⟨Wae _,fun _=>⟨Waf _,by simp,a,cap,rfl,by simp,fun aB=>?_⟩⟩;simp[ha aB]
    ·refine⟨?_,?_,aA,fun ax=>?_⟩
     ·simp only[if_true];simp[ai];omega
     ·simp[ai];omega
     simp only[if_true]at ax;obtain⟨arr,aQ,g1,g2,g6⟩:=g7 (by omega);refine⟨arr,aQ,?_,?_,?_⟩
     ·simp only[if_true];exact g1
     ·simp only[if_true];rw[Waz,<-Wav,hcap];exact g2
     ·intro i j c ab
      simp only[if_true];rw[ai,Wba]at ab;obtain⟨v,hv,hr⟩:=g6 _ _ _ (aF i j c ab);refine⟨v,?_,hr.trans tr⟩;rw[Wav]at hv;simpa [Waz]using hv
   ·--there is room
    have bg:0<cap:=by omega
    have bh:=ha bg
    subst bh
    have ax:(E.bd id).cap≠0:=by omega
    obtain⟨arr,aQ,g1,g2,g6⟩:=g7 ax
    have hbound:(E.bd id).off+rows.length*I.size+news.length<=arr.size:=by
     rw[U.newsLen,Waz,<-Wav]
     have:(rows.length+new.length)*I.size<=(E.bd id).cap*I.size:=WaH _ (by omega)
     omega
    have aZ:=RowAt.store (P:=P) (o:=((E.bd id).off+rows.length*I.size)) news 0 arr E.w g1 (by simpa using hbound) U.one
    simp only[Wbn]at aZ
    let aa:Array Value:=(arr.toList.take ((E.bd id).off+rows.length*I.size)++news++arr.toList.drop ((E.bd id).off+rows.length*I.size+news.length)).toArray
    have aH:∀k,aa[k]? =if(E.bd id).off+rows.length*I.size<=k/\k<(E.bd id).off+rows.length*I.size+news.length then news[k-((E.bd id).off+rows.length*I.size)]? else arr[k]? :=by
     intro k
     have:=zj5 arr.toList ((E.bd id).off+rows.length*I.size) news (by simpa using hbound) k
     simpa [aa,zen]using this
    have aS:aa.size=arr.size:=by
     have:=ziq arr.toList ((E.bd id).off+rows.length*I.size) news (by simpa using hbound)
     simpa [aa,zen]using this
    have a6:(E.bd id).off+lo*I.size+(rows.length-lo)*I.size=(E.bd id).off+rows.length*I.size:=by
     rw[Waz,<-Wav];congr 2;omega
    have ad:(Builtin.append_ #[t,tx] ty #[.slice (some ⟨(E.bd id).blk,(E.bd id).off+lo*I.size,none⟩) (rows.length-lo) cap,vx]).run P E.w=
      .ok (.slice (some ⟨(E.bd id).blk,(E.bd id).off+lo*I.size,none⟩) (rows.length-lo+new.length) cap) (E.w.setRow (E.bd id).blk aa):=by
     rcases ae with⟨e',al⟩|al<;>simp[Builtin.append_,run_underlying hu,run_underlying al,sizeOf,typeInfo,av,U.len,aG,U.cells,zti,a6,aZ,aa]
    obtain⟨tr,hh⟩:=zof hE id _ (.cells (cur+1) I.size (rows.drop lo++new)) (E.w.setRow (E.bd id).blk aa) ⟨(E.bd id).blk,(E.bd id).off+lo*I.size,cap⟩ ho (by simp) rfl rfl rfl
     (fun b hb aE=>setRow_other E.w _ b aa (aE ax))
     (fun aO sz' ak e=>by cases e;exact⟨cur,I.size,rows,rfl,by omega,fun h=>by omega⟩) (fun aY e=>by cases e) _ rfl (fun _=>.inl ⟨ax,rfl⟩)
    refine⟨_,_,ad,rfl,?_,hh ?_,tr⟩
    ·refine .one (.msl (by simp;exact(Wag.1 ho).1) rfl fun aP sz' ak aq=>?_)
     rw[WaU (Wag.1 ho).1]at aq;cases aq;exact⟨Wae _,fun _=>⟨Waf _,by simp,_,cap,rfl,by simp,fun aB=>by simp⟩⟩
    ·refine⟨?_,?_,aA,fun _=>⟨aa,aQ,?_,?_,?_⟩⟩
     ·simp only[if_true];simp;omega
     ·simp[lim];omega
     ·simp only[if_true];exact g1.setRow (by assumption)
     ·simp only[if_true];rw[aS,Waz,<-Wav,hcap];exact g2
     ·intro i j c ab
      simp only[if_true]
      rcases z15 ab with⟨hi,h⟩|⟨hi,h⟩
      ·obtain⟨_,hj⟩:=z04 h af
       obtain⟨v,hv,hr⟩:=g6 _ _ _ (aF i j c h);refine⟨v,?_,hr.trans tr⟩
       have e1:(E.bd id).off+lo*I.size+(i*I.size+j)=(E.bd id).off+((lo+i)*I.size+j):=by rw[Wav];omega
       have bj:=zku (show lo+i<rows.length by omega) hj
       rw[aH,e1,if_neg (by omega)];exact hv
      ·obtain⟨bl,hj⟩:=z04 h ao
       obtain⟨y,hy,hr⟩:=aj _ j c h hj;refine⟨y,?_,hr.trans tr⟩
       have bj:=zku bl hj
       have e1:(E.bd id).off+lo*I.size+(i*I.size+j)=(E.bd id).off+rows.length*I.size+((i-(rows.drop lo).length)*I.size+j):=by
        have h1:i=(rows.length-lo)+(i-(rows.drop lo).length):=by rw[aX]at hi|-;omega
        have h2:lo*I.size+i*I.size=rows.length*I.size+(i-(rows.drop lo).length)*I.size:=by
         rw[<-Wav,<-Wav];congr 1;omega
        omega
       rw[aH,e1,if_pos (by rw[U.newsLen];omega),WbK];exact hy
  ·--there is none
   have aw:=zpa (P:=P) hE (one_inv hs) (show zm8 E.H (.msl id ver lo rows.length)=some ((rows.take rows.length).drop lo,ver=cur) by simp[zm8,ho]) aN (by simpa using af) ar
   rw[Wbs]at aw;obtain⟨f,aL,aM,bb⟩:=aw.cells (rows.length-lo) (by simp)
   have ad:=run_append_grow_src (P:=P) E.w t tx ty e I zv hu av aU a (rows.length-lo) cap ((List.range ((rows.length-lo)*I.size)).map f)
    (aL E.w.drew (fun _=>rfl)) vx new.length news U (by omega) (by omega) (growslice_fits (by omega) au)
   have bo:=grownCap_ge E.w (rows.length-lo+new.length) cap e
   let aa:Array Value:=(((List.range ((rows.length-lo)*I.size)).map f)++news).toArray++Builtin.zeroCells zv.cells (grownCap E.w (rows.length-lo+new.length) cap e-(rows.length-lo+new.length))
   obtain⟨tr,hh⟩:=zof hE id _ (.cells (cur+1) I.size (rows.drop lo++new)) (E.w.drew.alloc (.cells aa e)) ⟨E.w.heap.size,0,grownCap E.w (rows.length-lo+new.length) cap e⟩ ho (by simp) rfl rfl rfl
    (fun b hb aE=>heap_alloc_old E.w.drew _ b (by simpa using hb))
    (fun aO sz' ak e=>by cases e;exact⟨cur,I.size,rows,rfl,by omega,fun h=>by omega⟩) (fun aY e=>by cases e) _ rfl (fun _=>.inr (Wae _))
   refine⟨_,_,ad,rfl,?_,hh ?_,tr⟩
   ·refine .one (.msl (by simp;exact(Wag.1 ho).1) rfl fun aP sz' ak aq=>?_)
    rw[WaU (Wag.1 ho).1]at aq;cases aq;exact⟨Wae _,fun _=>⟨Waf _,by simp,_,_,rfl,by simp,fun aB=>by simp⟩⟩
   ·refine⟨?_,?_,aA,fun _=>⟨aa,e,?_,?_,?_⟩⟩
    ·simp only[if_true];simp;omega
    ·simp[lim];omega
    ·simp only[if_true];exact RowAt.mk0 (heap_alloc_new E.w.drew _)
    ·simp only[if_true,aa,Array.size_append,List.size_toArray,Wai,Waq,List.length_range,size_zeroCells,aI,aD,U.newsLen]
     rw[<-Wav,<-Wav,Wbd];exact WaH _ (by omega)
    ·intro i j c ab
     simp only[if_true,Wbd]
     obtain⟨v,hv,hr⟩:=z4v (E:=E) (old:=rows.drop lo) (new:=new) (olds:=(List.range ((rows.length-lo)*I.size)).map f) (news:=news) (s:=I.size)
      (z:=Builtin.zeroCells zv.cells (grownCap E.w (rows.length-lo+new.length) cap e-(rows.length-lo+new.length))) 0 (by simp) af ao U.newsLen
      (fun i j c ab=>by
        obtain⟨hi,hj⟩:=z04 ab af;rw[aX]at hi
        exact⟨f (i*I.size+j),by simp[zku hi hj],aM i j c hi ab⟩) aj i j c ab
     exact⟨v,hv,hr.trans tr⟩
 ·exact .bad
theorem yfl {P:Program} {E:Env} (hE:HRel E) {ts:Array TypeId} {ty:TypeId} {d x:V} {vd vx:Value} (hd:VRel E d vd) (hx:VRel E x vx):Good P E (Builtin.copy_ ts ty #[vd,vx]) (z9p P ts d x E.H):=by
 unfold z9p;split
 case h_2=>exact .bad
 rename_i t id ver lo hi xc h0;split
 case h_2=>exact .bad
 rename_i e s b cur sz rows src p ht ho ay;rintro⟨hp,az,hsz,aF,ai⟩;subst hsz;obtain⟨I,hu,au,hs,_⟩:=zi1 ht;subst hs;obtain⟨aR,aS,a,cap,rfl,hcap,ha⟩:=zpf (one_inv hd) ho az;obtain⟨g3,g4,g5,g7⟩:=hE.obj id _ ho
 have aO:rows.length<=281474976710656:=g4
 refine⟨trivial,?_⟩
 have aj:∀E,VRel E (.one (.int .i64 (min src.length (hi-lo):Nat))) (.int .i64 (min src.length (hi-lo):Nat)):=fun E=>.one (.int (ymg _ (by omega)))
 have ad:=zpa (P:=P) hE (one_inv hx) ay hp ai aF
 obtain⟨f,aG,aH,aI⟩:=ad.cells (min src.length (hi-lo)) (by omega)
 have aJ:Builtin.copy_ ts ty #[.slice a (hi-lo) cap,vx]=Builtin.copy_ #[t] ty #[.slice a (hi-lo) cap,vx]:=by simp only[Builtin.copy_,h0];rfl
 have ae:Nat.min src.length (hi-lo)=min src.length (hi-lo):=rfl
 have aa:=aG E.w (fun _=>rfl)
 rw[aJ]
 by_cases hz:min src.length (hi-lo)=0
 ·have aA:zen rows lo (src.take (hi-lo))=rows:=by
   have:src.take (hi-lo)=[]:=WaJ (by rw[WaA];omega)
   simp[this,zen]
  refine⟨_,E,?_,?_,aj E,hE,Trans.refl E⟩
  ·rw[hz]at aa
   simp only[Builtin.copy_,Wa6,Wat,WaK,Sem.run_bind,run_underlying hu,Result.andThen_ok,ad.len,zeh au,ae,hz,aa];cases a<;>simp[storeCells,goInt]
  ·show E.H=E.H.set id _
   rw[aA]
   have ak:=(Wag.1 ho).1
   have aB:=(Wag.1 ho).2
   apply WbA
   intro k;rw[Wa9];split
   ·rename_i e;subst e;simp[ak,aB]
   ·rfl
 ·have aK:=ha (by omega)
  subst aK
  have al:(E.bd id).cap≠0:=by omega
  obtain⟨arr,aL,g1,g2,g6⟩:=g7 al
  let news:List Value:=(List.range (min src.length (hi-lo)*I.size)).map f
  have an:news.length=min src.length (hi-lo)*I.size:=by simp[news]
  have hbound:(E.bd id).off+lo*I.size+news.length<=arr.size:=by
   rw[an,Waz,<-Wav]
   have:(lo+min src.length (hi-lo))*I.size<=(E.bd id).cap*I.size:=WaH _ (by omega)
   omega
  have aC:∀v∈news,v.oneCell'=true:=by
   intro v hv;simp only[news,Wau,WaC]at hv;obtain⟨m,hm,rfl⟩:=hv;exact aI m hm
  have av:=RowAt.store (P:=P) (o:=((E.bd id).off+lo*I.size)) news 0 arr E.w g1 (by simpa using hbound) aC
  simp only[Wbn]at av
  let U:Array Value:=(arr.toList.take ((E.bd id).off+lo*I.size)++news++arr.toList.drop ((E.bd id).off+lo*I.size+news.length)).toArray
  have af:∀k,U[k]? =if(E.bd id).off+lo*I.size<=k/\k<(E.bd id).off+lo*I.size+news.length then news[k-((E.bd id).off+lo*I.size)]? else arr[k]? :=by
   intro k
   have:=zj5 arr.toList ((E.bd id).off+lo*I.size) news (by simpa using hbound) k
   simpa [U,zen]using this
  have ar:U.size=arr.size:=by
   have:=ziq arr.toList ((E.bd id).off+lo*I.size) news (by simpa using hbound)
   simpa [U,zen]using this
  have aD:(Builtin.copy_ #[t] ty #[.slice (some ⟨(E.bd id).blk,(E.bd id).off+lo*I.size,none⟩) (hi-lo) cap,vx]).run P E.w=.ok (.int .i64 (min src.length (hi-lo):Nat)) (E.w.setRow (E.bd id).blk U):=by
   simp only[Builtin.copy_,Wa6,Wat,WaK,Sem.run_bind,run_underlying hu,Result.andThen_ok,ad.len,zeh au,ae,aa]
   show(Result.andThen ((storeCells _ news).run P E.w) _)=_
   rw[av];simp[goInt,U]
  have aw:(src.take (hi-lo)).length=min src.length (hi-lo):=by rw[WaA];omega
  have ab:lo+(src.take (hi-lo)).length<=rows.length:=by rw[aw];omega
  obtain⟨tr,hh⟩:=zof hE id _ (.cells cur I.size (zen rows lo (src.take (hi-lo)))) (E.w.setRow (E.bd id).blk U) (E.bd id) ho (by simp) rfl rfl rfl
   (fun b hb aM=>setRow_other E.w _ b U (aM al))
   (fun aQ sz' aP e=>by cases e;exact⟨cur,I.size,rows,rfl,Wae _,fun _=>⟨rfl,(ziq _ _ _ ab).symm,rfl⟩⟩) (fun aT e=>by cases e) _ rfl (fun _=>.inl ⟨al,rfl⟩)
  refine⟨_,_,aD,rfl,aj _,hh ?_,tr⟩;refine⟨?_,?_,?_,fun _=>⟨U,aL,?_,?_,?_⟩⟩
  ·simp only[if_true];rw[ziq _ _ _ ab];exact g3
  ·rw[ziq _ _ _ ab];exact g4
  rotate_left
  ·simp only[if_true];exact g1.setRow (by assumption)
  ·simp only[if_true];rw[ar];exact g2
  rotate_left
  ·intro r hr
   obtain⟨k,hk,e⟩:=WaV.1 hr
   have h1:(zen rows lo (src.take (hi-lo)))[k]? =some r:=by rw[Wac hk,e]
   rw[zj5 _ _ _ ab]at h1;split at h1
   ·exact ai r (Wa2 (Wad h1))
   ·exact g5 r (Wad h1)
  ·intro i j c aN
   simp only[if_true];obtain⟨r,hr,hj⟩:=at2_some.1 aN;rw[zj5 _ _ _ ab]at hr;split at hr
   ·rename_i ax
    rw[WaQ]at hr;split at hr
    ·have ao:at2 src (i-lo) j=some c:=at2_some.2 ⟨r,hr,hj⟩
     obtain⟨aU,aq⟩:=z04 ao ai
     have ak:=zku (show i-lo<min src.length (hi-lo) by omega) aq
     refine⟨f ((i-lo)*I.size+j),?_,(aH _ _ _ (by omega) ao).trans tr⟩
     have e1:(E.bd id).off+(i*I.size+j)=(E.bd id).off+lo*I.size+((i-lo)*I.size+j):=by
      have:i*I.size=lo*I.size+(i-lo)*I.size:=by rw[<-Wav];congr 1;omega
      omega
     rw[af,e1,if_pos (by rw[an];omega),WbK];simp[news,ak]
    ·cases hr
   ·rename_i ax
    have aq:j<I.size:=by have:=(Wag.1 hj).1;rw[g5 r (Wad hr)]at this;exact this
    obtain⟨v,hv,aE⟩:=g6 i j c (at2_some.2 ⟨r,hr,hj⟩);refine⟨v,?_,aE.trans tr⟩;rw[af,if_neg ?_]
    ·exact hv
    ·rw[aw]at ax
     rw[an]
     rcases WaG i lo with h|h
     ·have:=zku h aq;omega
     ·have:lo+min src.length (hi-lo)<=i:=by omega
      have h2:=WaH I.size this
      rw[Wav]at h2;omega
theorem yc0 {P:Program} {E:Env} (hE:HRel E) {ts:Array TypeId} {ty:TypeId} {d:V} {vd:Value} (hd:VRel E d vd):Good P E (Builtin.clear_ ts ty #[vd]) (z1z P ts d E.H):=by
 unfold z1z;split
 case h_2=>exact .bad
 rename_i t id ver lo hi h0;split
 case h_2=>exact .bad
 rename_i e s b cur sz rows ht ho;split
 case h_2=>exact .bad
 rename_i z hz;split
 case h_2=>exact .bad
 rename_i zs aG;rintro⟨aA,hsz,aH,ai⟩;subst hsz;obtain⟨I,hu,av,hs,_⟩:=zi1 ht;subst hs;obtain⟨i,zv,aw,aI,aj,ab⟩:=zx7 (P:=P) (E:=E) hz aG;rw[av]at aw;cases aw;obtain⟨aV,aW,a,cap,rfl,hcap,ha⟩:=zpf (one_inv hd) ho aA;obtain⟨g3,g4,g5,g7⟩:=hE.obj id _ ho
 have aS:rows.length<=281474976710656:=g4
 refine⟨trivial,?_⟩
 have ak:∀E,VRel E (.tup []) (.tuple #[]):=fun E=>.tup rfl (by simp)
 have aJ:Builtin.clear_ ts ty #[.slice a (hi-lo) cap]=Builtin.clear_ #[t] ty #[.slice a (hi-lo) cap]:=by simp only[Builtin.clear_,h0];rfl
 have hzero:(zeroValue e).run P E.w=.ok zv E.w:=by simp[zeroValue,typeInfo,av,aI]
 rw[aJ]
 by_cases ax:hi-lo=0
 ·have aB:zen rows lo (List.replicate (hi-lo) zs)=rows:=by simp[ax,zen]
  refine⟨_,E,?_,?_,ak E,hE,Trans.refl E⟩
  ·rw[ax]
   cases a<;>simp[Builtin.clear_,run_underlying hu]
  ·show E.H=E.H.set id _
   rw[aB]
   have al:=(Wag.1 ho).1
   have aC:=(Wag.1 ho).2
   apply WbA
   intro k;rw[Wa9];split
   ·rename_i e;subst e;simp[al,aC]
   ·rfl
 ·have aK:=ha (by omega)
  subst aK
  have an:(E.bd id).cap≠0:=by omega
  obtain⟨arr,aL,g1,g2,g6⟩:=g7 an
  let f:Nat->Value:=fun k=>zv.cells[k%zv.cells.size]!
  let news:List Value:=(List.range ((hi-lo)*I.size)).map f
  have ay:(Builtin.zeroCells zv.cells (hi-lo)).toList=news:=by
   simp only[Builtin.zeroCells,news,f,Array.toList_map,Array.toList_range,aj,ai]
  have ao:news.length=(hi-lo)*I.size:=by simp[news]
  have hbound:(E.bd id).off+lo*I.size+news.length<=arr.size:=by
   rw[ao,Waz,<-Wav]
   have:(lo+(hi-lo))*I.size<=(E.bd id).cap*I.size:=WaH _ (by omega)
   omega
  have hf:∀j,j<I.size->∀k,∃c y,zs[j]? =some c/\zv.cells[j]? =some y/\f (k*I.size+j)=y/\∀E',CRel E' c y:=by
   intro j hj k
   have aM:j<zs.length:=by omega
   obtain⟨c,hc⟩:∃c,zs[j]? =some c:=⟨zs[j],by simp[aM]⟩;obtain⟨y,hy,_⟩:=ab E j c hc;refine⟨c,y,hc,hy,?_,fun E'=>?_⟩
   ·have hm:(k*I.size+j)%zv.cells.size=j:=by
     rw[aj,ai,WbL,Nat.add_mul_mod_self_right,Nat.mod_eq_of_lt hj]
    show zv.cells[(k*I.size+j)%zv.cells.size]! =y
    rw[hm,Array.getElem!_eq_getD,Wah,hy];rfl
   ·obtain⟨y',az,hr⟩:=ab E' j c hc
    rw[hy]at az;cases az;exact hr
  have aD:∀v∈news,v.oneCell'=true:=by
   intro v hv;simp only[news,Wau,WaC]at hv;obtain⟨m,hm,rfl⟩:=hv;obtain⟨c,y,_,_,h3,h4⟩:=hf (m%I.size) (Nat.mod_lt _ aH) (m/I.size)
   have aN:m/I.size*I.size+m%I.size=m:=by rw[Wbz];exact Nat.div_add_mod m I.size
   rw[aN]at h3;rw[h3];exact(h4 E).cell
  have ad:=RowAt.store (P:=P) (o:=((E.bd id).off+lo*I.size)) news 0 arr E.w g1 (by simpa using hbound) aD
  simp only[Wbn]at ad
  let U:Array Value:=(arr.toList.take ((E.bd id).off+lo*I.size)++news++arr.toList.drop ((E.bd id).off+lo*I.size+news.length)).toArray
  have ae:∀k,U[k]? =if(E.bd id).off+lo*I.size<=k/\k<(E.bd id).off+lo*I.size+news.length then news[k-((E.bd id).off+lo*I.size)]? else arr[k]? :=by
   intro k
   have:=zj5 arr.toList ((E.bd id).off+lo*I.size) news (by simpa using hbound) k
   simpa [U,zen]using this
  have au:U.size=arr.size:=by
   have:=ziq arr.toList ((E.bd id).off+lo*I.size) news (by simpa using hbound)
   simpa [U,zen]using this
  have aE:(Builtin.clear_ #[t] ty #[.slice (some ⟨(E.bd id).blk,(E.bd id).off+lo*I.size,none⟩) (hi-lo) cap]).run P E.w=.ok (.tuple #[]) (E.w.setRow (E.bd id).blk U):=by
   obtain⟨m,hm⟩:∃m,hi-lo=m+1:=⟨hi-lo-1,by omega⟩;rw[<-ay]at ad;rw[hm]at ad|-;simp only[Builtin.clear_,Wa6,Wat,Sem.run_bind,run_underlying hu,Result.andThen_ok,hzero];rw[ad];simp only[U,<-ay,hm,Result.andThen_ok,Sem.run_pure]
  have aq:(List.replicate (hi-lo) zs).length=hi-lo:=by simp
  have aa:lo+(List.replicate (hi-lo) zs).length<=rows.length:=by rw[aq];omega
  have aO:∀r∈List.replicate (hi-lo) zs,r.length=I.size:=fun r hr=>by rw[WbC hr];exact ai
  obtain⟨tr,hh⟩:=zof hE id _ (.cells cur I.size (zen rows lo (List.replicate (hi-lo) zs))) (E.w.setRow (E.bd id).blk U) (E.bd id) ho (by simp) rfl rfl rfl
   (fun b hb aP=>setRow_other E.w _ b U (aP an))
   (fun aU sz' aT e=>by cases e;exact⟨cur,I.size,rows,rfl,Wae _,fun _=>⟨rfl,(ziq _ _ _ aa).symm,rfl⟩⟩) (fun aX e=>by cases e) _ rfl (fun _=>.inl ⟨an,rfl⟩)
  refine⟨_,_,aE,rfl,ak _,hh ?_,tr⟩;refine⟨?_,?_,?_,fun _=>⟨U,aL,?_,?_,?_⟩⟩
  ·simp only[if_true];rw[ziq _ _ _ aa];exact g3
  ·rw[ziq _ _ _ aa];exact g4
  rotate_left
  ·simp only[if_true];exact g1.setRow (by assumption)
  ·simp only[if_true];rw[au];exact g2
  rotate_left
  ·intro r hr
   obtain⟨k,hk,e⟩:=WaV.1 hr
   have h1:(zen rows lo (List.replicate (hi-lo) zs))[k]? =some r:=by rw[Wac hk,e]
   rw[zj5 _ _ _ aa]at h1;split at h1
   ·exact aO r (Wad h1)
   ·exact g5 r (Wad h1)
  ·intro i j c aQ
   simp only[if_true];obtain⟨r,hr,hj⟩:=at2_some.1 aQ;rw[zj5 _ _ _ aa]at hr;split at hr
   ·rename_i ar
    rw[aq]at ar
    have aR:r=zs:=WbC (Wad hr)
    subst aR
    have af:j<I.size:=by have:=(Wag.1 hj).1;omega
    obtain⟨c',y,k1,k2,k3,k4⟩:=hf j af (i-lo);rw[hj]at k1;cases k1
    have al:=zku (show i-lo<hi-lo by omega) af
    refine⟨f ((i-lo)*I.size+j),?_,by rw[k3];exact k4 _⟩
    have e1:(E.bd id).off+(i*I.size+j)=(E.bd id).off+lo*I.size+((i-lo)*I.size+j):=by
     have:i*I.size=lo*I.size+(i-lo)*I.size:=by rw[<-Wav];congr 1;omega
     omega
    rw[ae,e1,if_pos (by rw[ao];omega),WbK];simp[news,al]
   ·rename_i ar
    have af:j<I.size:=by have:=(Wag.1 hj).1;rw[g5 r (Wad hr)]at this;exact this
    obtain⟨v,hv,aF⟩:=g6 i j c (at2_some.2 ⟨r,hr,hj⟩);refine⟨v,?_,aF.trans tr⟩;rw[ae,if_neg ?_]
    ·exact hv
    ·rw[aq]at ar
     rw[ao]
     rcases WaG i lo with h|h
     ·have:=zku h af;omega
     ·have:lo+(hi-lo)<=i:=by omega
      have h2:=WaH I.size this
      rw[Wav]at h2;omega
theorem z0m (keep:Bool) (ids:List Nat):∀(H:List O) (i j:Nat),(zli keep ids i H)[j]? =(H[j]?).map fun o=>if ids.contains (i+j)=keep then o else .dead
 |[],i,j=>by simp[zli]
 |o::r,i,0=>by simp[zli]
 |o::r,i,j+1=>by simp only[zli,WaK];rw[z0m keep ids r (i+1) j,show i+1+j=i+(j+1) by omega]
theorem z4j (keep:Bool) (ids:List Nat):∀(H:List O) (i:Nat),(zli keep ids i H).length=H.length
 |[],_=>rfl
 |_::r,i=>by simp[zli,z4j keep ids r (i+1)]
theorem zr8 {keep:Bool} {ids:List Nat} {H:List O} {j:Nat} {o:O} (h:(zli keep ids 0 H)[j]? =some o):o=.dead\/(H[j]? =some o/\ids.contains j=keep):=by
 rw[z0m,Wal]at h;obtain⟨x,I,rfl⟩:=h;rw[Wbd];split
 ·rename_i e;exact .inr ⟨I,e⟩
 ·exact .inl rfl
theorem z7v {E:Env} (hE:HRel E) (keep:Bool) (ids:List Nat):Trans E {E with H:=zli keep ids 0 E.H}/\HRel {E with H:=zli keep ids 0 E.H}:=by
 have U:∀{j:Nat} {x:O},({E with H:=zli keep ids 0 E.H}:Env).live j x->E.live j x:=fun{j x} h=>(zbj (E:=E) (E':={E with H:=zli keep ids 0 E.H}) rfl).1 h
 have get:∀{j:Nat} {x:O},(zli keep ids 0 E.H)[j]? =some x->E.live j x->E.H[j]? =some x:=fun{j x} h hl=>by
  rcases zr8 h with rfl|h
  ·exact hl.elim
  ·exact h.1
 have t:Trans E {E with H:=zli keep ids 0 E.H}:=by
  refine⟨rfl,Wae _,rfl,rfl,rfl,fun _ _ _=>rfl,?_,by simp[z4j],?_,?_⟩
  ·rintro b hb ⟨j,x,I,hl,aa⟩
   exact⟨j,x,get I (U hl),U hl,aa⟩
  ·intro j ver sz rows hj I
   rcases zr8 I with e|e
   ·cases e
   ·exact⟨ver,sz,rows,e.1,Wae _,fun _=>⟨rfl,rfl,rfl⟩⟩
  ·intro j es hj I
   rcases zr8 I with e|e
   ·cases e
   ·exact⟨es,e.1,rfl⟩
 refine⟨t,?_,?_,?_,hE.frlt,hE.gl t⟩
 ·intro j x I
  rcases zr8 I with e|e
  ·subst e;trivial
  ·exact(hE.obj j _ e.1).keep t rfl (fun _=>rfl)
 ·intro i j x y I hy lx ly ab
  exact hE.dist i j x y (get I (U lx)) (get hy (U ly)) (U lx) (U ly) ab
 ·intro i x I lx
  exact hE.nofr i x (get I (U lx)) (U lx)
theorem yce {H:List O}:∀{row:List C},fzP H row->∀c∈row,fzPc H c
 |[],_,c,hc=>by simp at hc
 |a::r,h,c,hc=>by
  rcases WaB.1 hc with rfl|hc
  ·exact h.1
  ·exact yce h.2 c hc
theorem z1v:∀{row:List C} {id ver lo hi:Nat},.msl id ver lo hi∈row->id∈zon row
 |[],_,_,_,_,hc=>by simp at hc
 |a::r,id,ver,lo,hi,hc=>by
  unfold zon
  rcases WaB.1 hc with rfl|hc
  ·simp
  ·have:=z1v hc
   cases a<;>simp[this]
theorem ygi {E U:Env} (hE:HRel E) (t:Trans E U) (hw:U.w=E.w) {c:C} {v:Value} (h:CRel E c v) (hp:fzPc E.H c)
  (hf:∀id ver lo hi cur sz rows,c=.msl id ver lo hi->E.H[id]? =some (.cells cur sz rows)->(E.bd id).cap≠0->U.free (E.bd id).blk):CRel U (fzC E.H c) v:=by
 cases c with
 |msl id ver lo hi=>
  simp only[fzPc]at hp;split at hp
  case h_2=>exact hp.elim
  rename_i cur sz rows ho;subst hp;simp only[fzC,ho];obtain⟨h1,h2,a,cap,rfl,h3,h4⟩:=zpf h ho rfl;obtain⟨g3,g4,g5,g7⟩:=hE.obj id _ ho
  have hlen:((rows.take hi).drop lo).length=hi-lo:=by simp;omega
  by_cases hz:hi-lo=0
  ·have ab:(rows.take hi).drop lo=[]:=WaJ (by omega)
   rw[ab,hz];exact .sl (fun _ _=>undef) 0 rfl (Waf _) (Waf _) (by simp) (by simp) (by simp[at2])
  have aa:(E.bd id).cap≠0:=by omega
  obtain⟨arr,ty,g1,g2,g6⟩:=g7 aa
  have key:∀i j c,at2 ((rows.take hi).drop lo) i j=some c->at2 rows (lo+i) j=some c:=by
   intro i j c I;obtain⟨r,hr,hj⟩:=at2_some.1 I;rw[Wa0,WaQ]at hr;split at hr
   ·exact at2_some.2 ⟨r,hr,hj⟩
   ·simp at hr
  have val:∀i j c,at2 ((rows.take hi).drop lo) i j=some c->arr[(E.bd id).off+lo*sz+(i*sz+j)]? =some (arr.getD ((E.bd id).off+lo*sz+(i*sz+j)) undef)/\CRel E c (arr.getD ((E.bd id).off+lo*sz+(i*sz+j)) undef):=by
   intro i j c I;obtain⟨y,hy,hr⟩:=g6 _ _ _ (key i j c I)
   have e:(E.bd id).off+((lo+i)*sz+j)=(E.bd id).off+lo*sz+(i*sz+j):=by rw[Wav];omega
   rw[e]at hy
   have:arr.getD ((E.bd id).off+lo*sz+(i*sz+j)) undef=y:=by simp[Wah,hy]
   rw[this];exact⟨hy,hr⟩
  refine .sl (fun i j=>arr.getD ((E.bd id).off+lo*sz+(i*sz+j)) undef) sz hlen.symm (by omega) (by omega) (fun r hr=>g5 r (Wa2 (Wa5 hr))) (fun ad=>?_) (fun i j c I=>(val i j c I).2.trans t);refine⟨(E.bd id).blk,(E.bd id).off+lo*sz,by rw[h4 (by omega)],hf _ _ _ _ _ _ _ rfl ho aa,fun i j c I=>?_⟩;rw[hw,g1.cell?];exact(val i j c I).1
 |slf rows=>exact(zlh h).1.trans t
 |_=>exact h.trans t
theorem Good.via {P:Program} {E E1:Env} {s:Sem Value} {r:R} {p:Prop} (hw:E1.w=E.w) (t:p->Trans E E1) (h:p->Good P E1 s r):Good P E s (andR p r):=by
 obtain⟨q,f,v,hh⟩:=r;rintro⟨I,hq⟩;obtain⟨h1,U,E',h2,h3,h4,h5,h6⟩:=h I hq;exact⟨h1,U,E',by rw[<-hw];exact h2,h3,h4,h5,(t I).trans h6⟩
theorem z9s {P:Program} {E:Env} (hE:HRel E) {ts:Array TypeId} {ty:TypeId} {sx x:V} {vs vx:Value} (hs:VRel E sx vs) (hx:VRel E x vx):Good P E (Builtin.append_ ts ty #[vs,vx]) (zyt P ts sx x E.H):=by
 unfold zyt;split
 case h_2=>exact .bad
 rename_i id ver lo hi;split
 case h_2=>exact .bad
 rename_i cur sz row ho;obtain⟨t1,h1⟩:=z7v hE false (zon row)
 have key:(zon row).contains id=false/\fzP E.H row->Trans E ⟨E.w,E.Fr,fun i=>if i=id then E.bd id else E.bd i,(zli false (zon row) 0 E.H).set id (.cells cur sz [row.map (fzC E.H)])⟩/\HRel ⟨E.w,E.Fr,fun i=>if i=id then E.bd id else E.bd i,(zli false (zon row) 0 E.H).set id (.cells cur sz [row.map (fzC E.H)])⟩:=by
  rintro⟨hn,hz⟩
  have ho1:(zli false (zon row) 0 E.H)[id]? =some (.cells cur sz [row]):=by
   rw[z0m,ho,Wbd];simp only[Wbq,hn,if_true]
  have al:id<(zli false (zon row) 0 E.H).length:=(Wag.1 ho1).1
  obtain⟨t2,h2⟩:=zof h1 id (.cells cur sz [row]) (.cells cur sz [row.map (fzC E.H)]) E.w (E.bd id) ho1 (Wae _) rfl rfl rfl (fun _ _ _=>rfl)
   (fun ak sz' ai e=>by injection e with e1 e2 e3;subst e1 e2 e3;exact⟨_,_,_,rfl,Wae _,fun _=>⟨rfl,rfl,rfl⟩⟩) (fun av e=>by cases e)
   ⟨E.w,E.Fr,fun i=>if i=id then E.bd id else E.bd i,(zli false (zon row) 0 E.H).set id (.cells cur sz [row.map (fzC E.H)])⟩ rfl (fun hl=>.inl ⟨by simpa [Env.live]using hl,rfl⟩)
  refine⟨t1.trans t2,h2 ?_⟩;obtain⟨a1,a2,a3,a4⟩:=hE.obj id _ ho;refine⟨by simpa using a1,by simpa using a2,fun r hr=>?_,fun hc=>?_⟩
  ·simp only[WaX]at hr;subst hr;rw[Waq];exact a3 row (by simp)
  ·simp only[if_true]at hc|-
   obtain⟨arr,an,b1,b2,b3⟩:=a4 hc;refine⟨arr,an,b1,b2,fun i j c ao=>?_⟩;obtain⟨r,hr,hj⟩:=at2_some.1 ao
   have hi:i=0:=by
    have:=(Wag.1 hr).1
    simp at this;exact this
   subst hi;simp at hr;subst hr;rw[Wao,Wal]at hj;obtain⟨c0,ad,rfl⟩:=hj;obtain⟨y,hy,aq⟩:=b3 0 j c0 (at2_some.2 ⟨row,rfl,ad⟩);refine⟨y,hy,ygi hE (t1.trans t2) rfl aq (yce hz c0 (Wad ad)) ?_⟩;intro I ak aw ax au sz' ai e aa hcap;subst e
   have aj:I∈zon row:=z1v (Wad ad)
   have ar:I≠id:=by rintro rfl;simp[List.contains_iff_mem]at hn;exact hn aj
   refine⟨hE.lt aa hcap,hE.nofr I _ aa hcap,?_⟩;rintro⟨k,o,U,hl,hb⟩;simp only at U hb
   by_cases ab:k=id
   ·subst ab
    simp only[if_true]at hb;rw[WaU al]at U;cases U
    have ae:E.live k (.cells cur sz [row]):=by simpa [Env.live]using hl
    exact hE.dist k I _ _ ho aa ae hcap (Ne.symm ar) hb
   ·rw[WaT (Ne.symm ab)]at U
    simp only[if_neg ab]at hb
    rcases zr8 U with rfl|⟨U,af⟩
    ·exact hl
    ·have ae:E.live k o:=by cases o<;>simp[Env.live,ab]at hl|-<;>assumption
     refine hE.dist k I _ _ U aa ae hcap (fun e=>?_) hb;subst e;simp[List.contains_iff_mem]at af;exact af aj
 refine Good.via (E1:=⟨E.w,E.Fr,fun i=>if i=id then E.bd id else E.bd i,(zli false (zon row) 0 E.H).set id (.cells cur sz [row.map (fzC E.H)])⟩) rfl (fun hp=>(key hp).1) (fun hp=>?_)
 exact z16 (key hp).2 (hs.trans (key hp).1) (hx.trans (key hp).1)
end Go.Lz

end
section
namespace Go.Lz
theorem ycl {E:Env} {place:Nat->Option (Nat×Nat)}:∀{parts:List (Nat×V)} {vparts:List (Nat×Value)} {zs cs:List C} {va:Array Value},
  parts.length=vparts.length->(∀(k:Nat) (i:Nat) (x:V),parts[k]? =some (i,x)->∃v,vparts[k]? =some (i,v)/\VRel E x v)->
  va.size=zs.length->(∀(j:Nat) (c:C),zs[j]? =some c->∃y,va[j]? =some y/\CRel E c y)->z9j place zs parts=some cs->
  ∃out,Instr.fill place va vparts=some out/\out.size=cs.length/\∀(j:Nat) (c:C),cs[j]? =some c->∃y,out[j]? =some y/\CRel E c y
 |[],vparts,zs,cs,va,hl,hp,hs,hr,h=>by
  have:vparts=[]:=WaJ (by simpa using hl.symm)
  subst this;simp[z9j]at h;subst h;exact⟨va,rfl,hs,hr⟩
 |(i,x)::rest,vparts,zs,cs,va,hl,hp,hs,hr,h=>by
  obtain⟨v,hv,hx⟩:=hp 0 i x rfl
  cases vparts with
  |nil=>simp at hv
  |cons p ad=>
   simp at hv;subst hv;simp only[z9j]at h
   cases I:place i with
   |none=>simp[I]at h
   |some os=>
    obtain⟨off,size⟩:=os
    cases ab:x.cs with
    |none=>simp[I,ab]at h
    |some c0=>
     simp only[I,ab]at h;split at h
     ·cases h
     ·rename_i U
      obtain⟨q1,q2⟩:=hx.cells ab
      have af:c0.length=size:=Wce fun h=>U (.inl h)
      have ae:off+c0.length<=zs.length:=Nat.le_of_not_lt fun h=>U (.inr h)
      have aa:v.cells.zipIdx.foldl (fun cs (x:Value×Nat)=>cs.setIfInBounds (off+x.2) x.1) va=(v.cells.toList.zipIdx 0).foldl (fun cs (x:Value×Nat)=>cs.setIfInBounds (off+x.2) x.1) va:=by
       rw[<-Array.foldl_toList];simp
      obtain⟨f1,f2⟩:=Great.foldl_set off v.cells.toList 0 va
      have ih:=ycl (E:=E) (place:=place) (parts:=rest) (vparts:=ad) (zs:=zen zs off c0) (cs:=cs)
       (va:=v.cells.zipIdx.foldl (fun cs (x:Value×Nat)=>cs.setIfInBounds (off+x.2) x.1) va) (by simpa using hl)
       (fun k i x hk=>by simpa using hp (k+1) i x (by simpa using hk)) (by rw[aa,f1,ziq _ _ _ ae,hs])
       (fun j c hj=>by
         rw[zj5 _ _ _ ae]at hj;rw[aa,f2];simp only[Wbn,Wbb,q1];split at hj
         ·rename_i hh
          rw[if_pos (by omega)];simpa using q2 _ _ hj
         ·rename_i hh
          rw[if_neg (by omega)]
          exact hr j c hj) h
      obtain⟨out,o1,o2⟩:=ih;refine⟨out,?_,o2⟩;simp only[Instr.fill,I];rw[if_neg (by simp[q1,af];omega)];exact o1
theorem ydy {P:Program} {t:TypeId} {pl:Nat->Option (Nat×Nat)} {z:V} {zs:List C} (I:tPl P t=some pl) (hz:tZ P t=some z) (ab:z.cs=some zs):
  ∃U:Value,U.cells.size=zs.length/\(∀(E:Env) (j:Nat) (c:C),zs[j]? =some c->∃y,U.cells[j]? =some y/\CRel E c y)/\∀parts,P.built t parts=Instr.fill pl U.cells parts:=by
 obtain⟨i,U,hi,aa,h1,h2⟩:=zx7 (P:=P) (E:=⟨default,fun _=>False,fun _=>⟨0,0,0⟩,[]⟩) hz ab;refine⟨U,h1,h2,fun parts=>?_⟩;unfold tPl at I;unfold Program.built;split at I
 ·rename_i n e hu
  split at I
  ·rename_i ie ad
   cases I;simp[hi,hu,aa,ad]
  ·cases I
 ·rename_i fs hu
  split at I
  ·rename_i ae hp
   cases I;simp[hi,hu,aa,hp]
  ·cases I
 ·cases I
theorem yc6 {P:Program} {E:Env} (hE:HRel E) {t:TypeId} {parts:List (Nat×V)} {vparts:Array (Nat×Value)} (hl:parts.length=vparts.size)
  (hp:∀(k:Nat) (i:Nat) (x:V),parts[k]? =some (i,x)->∃v,vparts[k]? =some (i,v)/\VRel E x v):Good P E (Instr.build t vparts) (zx1 P t parts E.H):=by
 unfold zx1;split
 ·rename_i pl z I hz
  split
  ·rename_i zs U
   split
   ·rename_i cs aa
    obtain⟨zv,h1,h2,h3⟩:=ydy I hz U;obtain⟨out,o1,o2,o3⟩:=ycl (E:=E) (vparts:=vparts.toList) (va:=zv.cells) (by simpa using hl) (fun k i x hk=>by simpa using hp k i x hk) h1 (h2 E) aa;refine .ok hE ⟨.agg out,run_build E.w t vparts out (by rw[h3];exact o1),.agg o2 fun j c hj=>?_⟩;obtain⟨y,hy,hr⟩:=o3 j c hj;simp only[Wah,hy,WaI];exact hr
   ·exact .bad
  ·exact .bad
 ·exact .bad
theorem z3a {E:Env} {s n:Nat} (ai:0<s):∀{parts:List (Nat×V)} {vparts:List (Nat×Value)} {rows out:List (List C)} {va:Array Value},
  parts.length=vparts.length->(∀(k:Nat) (i:Nat) (x:V),parts[k]? =some (i,x)->∃v,vparts[k]? =some (i,v)/\VRel E x v)->
  va.size=n*s->rows.length=n->(∀r∈rows,r.length=s)->(∀i j c,at2 rows i j=some c->∃y,va[i*s+j]? =some y/\CRel E c y)->z9i s rows parts=some out->
  ∃vo,Instr.fill (fun i=>some (i*s,s)) va vparts=some vo/\vo.size=n*s/\out.length=n/\(∀r∈out,r.length=s)/\∀i j c,at2 out i j=some c->∃y,vo[i*s+j]? =some y/\CRel E c y
 |[],vparts,rows,out,va,hl,hp,hs,hn,U,hr,h=>by
  have:vparts=[]:=WaJ (by simpa using hl.symm)
  subst this;simp[z9i]at h;subst h;exact⟨va,rfl,hs,hn,U,hr⟩
 |(i,x)::rest,vparts,rows,out,va,hl,hp,hs,hn,U,hr,h=>by
  obtain⟨v,hv,hx⟩:=hp 0 i x rfl
  cases vparts with
  |nil=>simp at hv
  |cons p af=>
   simp at hv;subst hv;simp only[z9i]at h
   cases ad:x.cs with
   |none=>simp[ad]at h
   |some c0=>
    simp only[ad]at h;split at h
    ·cases h
    ·rename_i aa
     obtain⟨q1,q2⟩:=hx.cells ad
     have ae:c0.length=s:=Wce fun h=>aa (.inl h)
     have al:i<rows.length:=Nat.lt_of_not_le fun h=>aa (.inr h)
     have hb:i*s+s<=n*s:=by have:=WaH s (show i+1<=n by omega);rw[Wbc]at this;exact this
     have ab:v.cells.zipIdx.foldl (fun cs (x:Value×Nat)=>cs.setIfInBounds (i*s+x.2) x.1) va=(v.cells.toList.zipIdx 0).foldl (fun cs (x:Value×Nat)=>cs.setIfInBounds (i*s+x.2) x.1) va:=by
      rw[<-Array.foldl_toList];simp
     obtain⟨f1,f2⟩:=Great.foldl_set (i*s) v.cells.toList 0 va
     have ih:=z3a (E:=E) (s:=s) (n:=n) ai (parts:=rest) (vparts:=af) (rows:=rows.set i c0) (out:=out)
      (va:=v.cells.zipIdx.foldl (fun cs (x:Value×Nat)=>cs.setIfInBounds (i*s+x.2) x.1) va) (by simpa using hl)
      (fun k i x hk=>by simpa using hp (k+1) i x (by simpa using hk)) (by rw[ab,f1,hs]) (by simpa using hn)
      (fun r hr=>by rcases WbZ hr with h|h;exact U r h;rw[h];exact ae)
      (fun i' j c aj=>by
        obtain⟨r,I,hj⟩:=at2_some.1 aj;rw[Wa9]at I;rw[ab,f2];simp only[Wbn,Wbb,q1,ae];split at I
        ·rename_i e
         subst e;cases I
         have ak:j<s:=by have:=(Wag.1 hj).1;omega
         rw[if_pos (by omega),WbK];simpa using q2 j c hj
        ·rename_i e
         have ak:j<s:=by have:=(Wag.1 hj).1;rw[U r (Wad I)]at this;exact this
         rw[if_neg ?_]
         ·exact hr i' j c (at2_some.2 ⟨r,I,hj⟩)
         ·rcases Nat.lt_or_gt_of_ne e with h|h
          ·have:=WaH s h;rw[Wbc]at this;omega
          ·have:=WaH s h;rw[Wbc]at this;omega) h
     obtain⟨vo,o1,o2⟩:=ih;refine⟨vo,?_,o2⟩;simp only[Instr.fill];rw[if_neg (by simp[q1,ae];omega)];exact o1
theorem z1h {own:Bool} {P:Program} {E:Env} (hE:HRel E) {t:TypeId} {n:Nat} {parts:List (Nat×V)} {vparts:Array (Nat×Value)} (hl:parts.length=vparts.size)
  (hp:∀(k:Nat) (i:Nat) (x:V),parts[k]? =some (i,x)->∃v,vparts[k]? =some (i,v)/\VRel E x v):Good P E (Instr.buildSlice t n vparts) (znt P own t n parts E.H):=by
 unfold znt;split
 ·rename_i e s b ht
  split
  ·rename_i z hz
   split
   ·rename_i zs au
    split
    ·rename_i rows ai
     have main:n*s<=16777216/\0<n*s/\zs.length=s/\n<=lim->∃(w':World) (e':TypeId) (I:Array Value),(Instr.buildSlice t n vparts).run P E.w=.ok (.slice (some ⟨E.w.heap.size,0,none⟩) n n) w'/\w'=E.w.alloc (.cells I e')/\I.size=n*s/\rows.length=n/\(∀r∈rows,r.length=s)/\∀i j c,at2 rows i j=some c->∃y,I[i*s+j]? =some y/\CRel E c y:=by
      rintro⟨g1,g2,g3,g4⟩;obtain⟨ie,hu,ad,hs,hb⟩:=zi1 ht;obtain⟨i,zv,hi,aj,af,ab⟩:=zx7 (P:=P) (E:=E) hz au;rw[ad]at hi;cases hi
      have ak:0<s:=Nat.pos_of_ne_zero (fun h=>by simp[h]at g2)
      have U:=z2n (E:=E) af (ab E) n n (Wae _)
      rw[g3]at U
      obtain⟨I,o1,o2,o3,o4,o5⟩:=z3a (E:=E) (s:=s) (n:=n) ak (vparts:=vparts.toList) (va:=madeCells zv.cells (n*s)) (rows:=List.replicate n zs) (by simpa using hl)
       (fun k i x hk=>by simpa using hp k i x hk) (size_madeCells _ _) (by simp) (fun r hr=>by rw[WbC hr,g3]) U ai
      have aa:=run_buildSlice (P:=P) E.w t e n vparts I ie zv hu ad aj (by rw[hs];omega) (by rw[hs];omega) (by rw[hs];exact o1)
      exact⟨_,e,I,aa,rfl,o2,o3,o4,o5⟩
     split
     ·rename_i aw
      rintro al;obtain⟨w',e',I,aa,hw,o2,o3,o4,o5⟩:=main al;obtain⟨g1,g2,g3,g4⟩:=al;obtain⟨tr,hh⟩:=zi9 hE w' (by rw[hw];simp) (by rw[hw];rfl) (by rw[hw];rfl) (by rw[hw];rfl) (fun b hb=>by rw[hw];exact heap_alloc_old E.w _ b hb);refine⟨trivial,_,⟨w',E.Fr,E.bd,E.H⟩,aa,rfl,?_,hh,tr⟩
      have hlen:(zuj rows).length=n:=by simp[zuj,o3]
      have key:∀i j c,at2 (zuj rows) i j=some c->∃c0,at2 rows i j=some c0/\c=c0.unf:=by
       intro i j c ae;obtain⟨r,hr,hj⟩:=at2_some.1 ae;simp only[zuj,Wao,Wal]at hr;obtain⟨r0,an,rfl⟩:=hr;simp only[Wao,Wal]at hj;obtain⟨c0,ao,rfl⟩:=hj;exact⟨c0,at2_some.2 ⟨r0,an,ao⟩,rfl⟩
      have aq:∀i j,∃y,∀c,at2 (zuj rows) i j=some c->I[i*s+j]? =some y/\CRel ⟨w',E.Fr,E.bd,E.H⟩ c y:=by
       intro i j
       cases hc:at2 (zuj rows) i j with
       |none=>exact⟨undef,by simp⟩
       |some c=>
        obtain⟨c0,ao,rfl⟩:=key i j c hc;obtain⟨y,hy,hr⟩:=o5 _ _ _ ao
        have av:=hr.trans tr
        refine⟨y,fun c' e=>?_⟩;cases e;refine⟨hy,?_⟩
        cases c0 with
        |slf rs=>exact(zlh av).1
        |_=>exact av
      refine .one (.slf (.sl (fun i j=>Classical.choose (aq i j)) s hlen.symm (by omega) (by omega) ?_ (fun _=>⟨E.w.heap.size,0,rfl,⟨by rw[hw];simp,fun hf=>?_,fun ho=>?_⟩,fun i j c ae=>?_⟩) (fun i j c ae=>(WaW (aq i j) c ae).2)) ⟨_,by rw[hlen]⟩)
      ·intro r hr
       obtain⟨r0,an,rfl⟩:=Wau.1 hr;rw[Waq];exact o4 r0 an
      ·have:=hE.frlt _ hf;omega
      ·have h1:E.own E.w.heap.size:=by
        obtain⟨i,y,q1,q2,q3⟩:=ho;exact⟨i,y,q1,(zbj (E:=E) (E':=⟨w',E.Fr,E.bd,E.H⟩) rfl).1 q2,q3⟩
       have:=hE.own_lt h1;omega
      ·have ar:∀y,I[i*s+j]? =some y->w'.cell? ⟨E.w.heap.size,0+(i*s+j),none⟩=some y:=by
        intro y hy;rw[hw];simp only[World.cell?,heap_alloc_new E.w];simpa using hy
       exact ar _ (WaW (aq i j) c ae).1
     rintro⟨g1,g2,g3,g4⟩;refine⟨trivial,?_⟩;obtain⟨ie,hu,ad,hs,hb⟩:=zi1 ht;obtain⟨i,zv,hi,aj,af,ab⟩:=zx7 (P:=P) (E:=E) hz au;rw[ad]at hi;cases hi
     have ak:0<s:=Nat.pos_of_ne_zero (fun h=>by simp[h]at g2)
     have U:=z2n (E:=E) af (ab E) n n (Wae _)
     rw[g3]at U
     obtain⟨I,o1,o2,o3,o4,o5⟩:=z3a (E:=E) (s:=s) (n:=n) ak (vparts:=vparts.toList) (va:=madeCells zv.cells (n*s)) (rows:=List.replicate n zs) (by simpa using hl)
      (fun k i x hk=>by simpa using hp k i x hk) (size_madeCells _ _) (by simp) (fun r hr=>by rw[WbC hr,g3]) U ai
     have aa:=run_buildSlice (P:=P) E.w t e n vparts I ie zv hu ad aj (by rw[hs];omega) (by rw[hs];omega) (by rw[hs];exact o1)
     obtain⟨E',hw,hH,hv,hh,tr⟩:=z2t hE (w1:=E.w) rfl rfl rfl rfl (fun _ _=>rfl) (arr:=I) (ty:=e) (s:=s) (n:=n) (cap:=n) (rows:=rows) o3 (Wae _) (by omega) g4 o4 o5;exact⟨_,E',by rw[hw];exact aa,hH,hv,hh,tr⟩
    ·exact .bad
   ·exact .bad
  ·exact .bad
 ·exact .bad
theorem yef {P:Program} {E:Env} (hE:HRel E) {c x y:V} {vc I U:Value} (hc:VRel E c vc) (hx:VRel E x I) (hy:VRel E y U):
  Good P E (do pure (if<-asBool vc then I else U)) (z2r c x y E.H):=by
 unfold z2r;split
 ·have h1:=bool_inv (one_inv hc);have h2:=bool_inv (one_inv hx);have h3:=bool_inv (one_inv hy)
  subst h1;subst h2;subst h3;rename_i c x y;refine .ok hE ⟨_,by simp[asBool];rfl,?_⟩;cases c<;>exact .one .bool
 ·have h1:=bool_inv (one_inv hc);subst h1
  exact .ok hE ⟨I,by simp[asBool],hx⟩
 ·have h1:=bool_inv (one_inv hc);subst h1
  exact .ok hE ⟨U,by simp[asBool],hy⟩
 ·exact .bad
theorem z4f {E:Env}:∀{xs:List V} {vs:List Value} {cs:List C},xs.length=vs.length->(∀(j:Nat) (x:V),xs[j]? =some x->∃v,vs[j]? =some v/\VRel E x v)->zwf xs=some cs->
  vs.length=cs.length/\∀(j:Nat) (c:C),cs[j]? =some c->∃v,vs[j]? =some v/\CRel E c v
 |[],vs,cs,hl,h,I=>by simp[zwf]at I;subst I;simp at hl;simp[hl.symm]
 |x::xs,vs,cs,hl,h,I=>by
  obtain⟨v,hv,hx⟩:=h 0 x rfl
  cases vs with
  |nil=>simp at hl
  |cons v0 vs=>
   simp at hv;subst hv
   cases x with
   |one c=>
    simp only[zwf]at I;split at I
    ·rename_i ab aa
     cases I;obtain⟨h1,h2⟩:=z4f (E:=E) (xs:=xs) (vs:=vs) (by simpa using hl) (fun j x U=>by simpa using h (j+1) x (by simpa using U)) aa;refine⟨by simp[h1],fun j c' U=>?_⟩
     cases j with
     |zero=>simp at U;subst U;exact⟨v0,rfl,one_inv hx⟩
     |succ j=>simpa using h2 j c' (by simpa using U)
    ·cases I
   |agg cs=>simp[zwf]at I
   |tup vs=>simp[zwf]at I
   |un=>simp[zwf]at I
theorem z4k {P:Program} {E:Env} (hE:HRel E) {f:FuncId} {xs:List V} {vs:Array Value} {cs:List C} (hl:xs.length=vs.size) (h:∀(j:Nat) (x:V),xs[j]? =some x->∃v,vs[j]? =some v/\VRel E x v) (U:zwf xs=some cs):
  Good P E (Instr.makeFunc (.func f) #[] vs) (.ok (.one (.fn f cs)) E.H):=by
 obtain⟨h1,h2⟩:=z4f (E:=E) (vs:=vs.toList) (by simpa using hl) (fun j x I=>by simpa using h j x I) U;refine .ok hE ⟨_,rfl,.one (.fn (by simpa using h1) fun j c I=>?_)⟩;obtain⟨v,hv,hr⟩:=h2 j c I
 have:vs[j]? =some v:=by simpa using hv
 simp only[Wah,this,WaI];exact hr
theorem z2g {P:Program} {t:TypeId} {n:Nat} (h:tAg P t=some (true,n)):(∃fs,P.underlying t=some (.struct fs))\/∃k e,P.underlying t=some (.array k e):=by
 unfold tAg at h;split at h
 ·rename_i fs i hu hi;exact .inl ⟨fs,hu⟩
 ·rename_i k e i hu hi;exact .inr ⟨k,e,hu⟩
 ·simp at h
 ·cases h
theorem z88 {P:Program} {E:Env} (hE:HRel E) {t:TypeId} {x:V} {v:Value} (I:VRel E x v):Good P E (Instr.makeInterface t v) (zr9 P t x E.H):=by
 unfold zr9;split
 ·rename_i n cs ht
  cases I with
  |agg hn hv=>
   refine .ok hE ⟨_,?_,.one (.ifc hn hv)⟩
   rcases z2g ht with⟨fs,hu⟩|⟨k,e,hu⟩<;>simp[Instr.makeInterface,run_underlying hu]
 ·exact fun U=>U.elim
theorem z7r {P:Program} {E:Env} (hE:HRel E) {a:TypeId} {ok:Bool} {s:Sem Value} (h:ok=true->s.run P E.w=(do pure (.tuple #[<-zeroValue a,.bool false]):Sem Value).run P E.w):Good P E s (z1a P a ok E.H):=by
 unfold z1a;split
 ·rename_i z hz
  obtain⟨iz,U,aa,ab,rfl⟩:=zz7 hz
  refine .ok hE ⟨.tuple #[U,.bool false],?_,.tup (by simp) fun j x I=>?_⟩
  ·rw[h rfl]
   simp only[zeroValue,typeInfo,Sem.run_bind,run_program,Result.andThen_ok,aa,Sem.run_pure,ab]
  ·match j with
   |0=>simp at I;subst I;exact V.ofV_rel E U
   |1=>simp at I;subst I;exact .one .bool
   |j+2=>simp at I
 ·exact fun hp=>hp.elim
theorem ye3 {P:Program} {E:Env} (hE:HRel E) {ok:Bool} {cs:List C} {vs:Array Value} {s:Sem Value} (hn:vs.size=cs.length) (hv:∀j c,cs[j]? =some c->CRel E c (vs.getD j undef)) (h:s.run P E.w=.ok (if ok then .tuple #[.agg vs,.bool true]else .agg vs) E.w):Good P E s (z2z ok cs E.H):=by
 unfold z2z;refine .ok hE ⟨_,h,?_⟩
 cases ok with
 |true=>
  refine .tup (by simp) fun j x I=>?_
  match j with
  |0=>simp at I;subst I;exact .agg hn hv
  |1=>simp at I;subst I;exact .one .bool
  |j+2=>simp at I
 |false=>exact .agg hn hv
theorem z09 {P:Program} {E:Env} (hE:HRel E) {xt a:TypeId} {ok:Bool} {x:V} {v:Value} (U:VRel E x v):Good P E (Instr.typeAssert v xt a ok) (zjd P x a ok E.H):=by
 unfold zjd;split
 ·rename_i n t cs ha
  cases one_inv U with
  |ifc hn hv=>
   by_cases e:t=a
   ·rw[if_pos e]
    refine ye3 hE hn hv ?_
    rcases z2g ha with⟨fs,hu⟩|⟨k,el,hu⟩<;>simp[Instr.typeAssert,run_underlying hu,e]
   ·rw[if_neg e]
    refine z7r hE fun I=>?_
    rcases z2g ha with⟨fs,hu⟩|⟨k,el,hu⟩<;>simp[Instr.typeAssert,run_underlying hu,e,I]
 ·rename_i n ha
  cases one_inv U;refine z7r hE fun I=>?_
  rcases z2g ha with⟨fs,hu⟩|⟨k,el,hu⟩<;>simp[Instr.typeAssert,run_underlying hu,I]
 ·exact fun hp=>hp.elim
theorem z5y {P:Program} {E:Env} (hE:HRel E) {t:TypeId}:Good P E (Instr.makeMap t none) (.ok (.one (.mp E.H.length)) (E.H++[.map []])):=by
 intro _;refine⟨trivial,?_⟩
 obtain⟨tr,I⟩:=z0i hE (E.w.alloc (.map #[] 0)) ⟨E.w.heap.size,0,0⟩ (.map []) (by simp) rfl rfl rfl (fun b hb=>heap_alloc_old E.w _ b hb) _ rfl (fun _=>by simp)
 refine⟨.map (some E.w.heap.size),_,by simp[Instr.makeMap],rfl,?_,I ?_,tr⟩
 ·refine .one (.mp (by simp) rfl fun es U=>?_)
  simp
 ·refine⟨#[],0,?_,rfl,by simp⟩
  simp only[if_true];exact heap_alloc_new E.w _
theorem z6c {P:Program} {E:Env} (hE:HRel E) {xs:List V} {v:Value} {i:Nat} {x:V} (U:VRel E (.tup xs) v) (hi:xs[i]? =some x):Good P E (Instr.extract v i) (.ok x E.H):=by
 cases U with
 | @tup _ vs hn h=>
   have I:i<vs.size:=by have:=(Wag.1 hi).1;omega
   refine .ok hE ⟨vs[i],by simp[Instr.extract,I],?_⟩;simpa [Wah,I]using h i x hi
theorem yf8 {k:IntKind} {a b:Int} (ha:k.min<=a/\a<=k.max) (hb:k.min<=b/\b<=k.max) (c:Prop) [Decidable c]:k.min<=(if c then b else a)/\(if c then b else a)<=k.max:=by
 split<;>assumption
theorem yoz {P:Program} {E:Env} (hE:HRel E) {b:Builtin} {ts:Array TypeId} {ty:TypeId} {xs:List V} {vs:Array Value} {consts:Array Bool} (hl:xs.length=vs.size) (h:∀(j:Nat) (x:V),xs[j]? =some x->∃v,vs[j]? =some v/\VRel E x v)
  (U:(biF P b ts xs E.H).pre):∃s:Sem Value,Good P E s (biF P b ts xs E.H)/\builtin b ts ty consts vs=(do pure (.value (<-s))):=by
 unfold biF at U|-;split at U
 ·rename_i x
  obtain⟨v,hv,I⟩:=h 0 x rfl
  have:vs= #[v]:=by apply Wbp;cases vs with|mk l=>cases l with|nil=>simp at hl|cons a r=>simp at hl hv;simp[hl,hv]
  subst this;split at U
  ·rename_i t ht
   exact⟨_,yis hE I ty ts ht,rfl⟩
  ·exact U.elim
 ·rename_i x y
  obtain⟨v,hv,I⟩:=h 0 x rfl;obtain⟨u,hu,hy⟩:=h 1 y rfl
  have:vs= #[v,u]:=by
   apply Wbp;cases vs with|mk l=>cases l with|nil=>simp at hl|cons a r=>cases r with|nil=>simp at hl|cons a' r'=>simp at hl hv hu;simp[hl,hv,hu]
  subst this;exact⟨_,z16 hE I hy,rfl⟩
 ·rename_i x y
  obtain⟨v,hv,I⟩:=h 0 x rfl;obtain⟨u,hu,hy⟩:=h 1 y rfl
  have:vs= #[v,u]:=by
   apply Wbp;cases vs with|mk l=>cases l with|nil=>simp at hl|cons a r=>cases r with|nil=>simp at hl|cons a' r'=>simp at hl hv hu;simp[hl,hv,hu]
  subst this;exact⟨_,yfl hE I hy,rfl⟩
 ·rename_i x
  obtain⟨v,hv,I⟩:=h 0 x rfl
  have:vs= #[v]:=by apply Wbp;cases vs with|mk l=>cases l with|nil=>simp at hl|cons a r=>simp at hl hv;simp[hl,hv]
  subst this;exact⟨_,yc0 hE I,rfl⟩
 ·rename_i k a k' b
  obtain⟨v,hv,I⟩:=h 0 _ rfl;obtain⟨u,hu,hy⟩:=h 1 _ rfl
  have:vs= #[v,u]:=by
   apply Wbp;cases vs with|mk l=>cases l with|nil=>simp at hl|cons a r=>cases r with|nil=>simp at hl|cons a' r'=>simp at hl hv hu;simp[hl,hv,hu]
  subst this;obtain⟨rfl,h1⟩:=int_inv (one_inv I);obtain⟨rfl,h2⟩:=int_inv (one_inv hy);split at U
  ·rename_i e
   subst e
   exact⟨Builtin.max_ ts ty #[.int k a,.int k b],by rw[if_pos rfl];exact .ok hE ⟨_,run_max_int2 E.w ts ty k k a b,.one (.int (yf8 h1 h2 _))⟩,rfl⟩
  ·exact U.elim
 ·rename_i k a k' b
  obtain⟨v,hv,I⟩:=h 0 _ rfl;obtain⟨u,hu,hy⟩:=h 1 _ rfl
  have:vs= #[v,u]:=by
   apply Wbp;cases vs with|mk l=>cases l with|nil=>simp at hl|cons a r=>cases r with|nil=>simp at hl|cons a' r'=>simp at hl hv hu;simp[hl,hv,hu]
  subst this;obtain⟨rfl,h1⟩:=int_inv (one_inv I);obtain⟨rfl,h2⟩:=int_inv (one_inv hy);split at U
  ·rename_i e
   subst e
   exact⟨Builtin.min_ ts ty #[.int k a,.int k b],by rw[if_pos rfl];exact .ok hE ⟨_,run_min_int2 E.w ts ty k k a b,.one (.int (yf8 h1 h2 _))⟩,rfl⟩
  ·exact U.elim
 ·exact U.elim
theorem yoy {P:Program} {E:Env} (hE:HRel E) {z:Bool} {b:Builtin} {ts:Array TypeId} {ty:TypeId} {xs:List V} {vs:Array Value} {consts:Array Bool} (hl:xs.length=vs.size) (h:∀(j:Nat) (x:V),xs[j]? =some x->∃v,vs[j]? =some v/\VRel E x v)
  (I:(biZ P z b ts xs E.H).pre):∃s:Sem Value,Good P E s (biZ P z b ts xs E.H)/\builtin b ts ty consts vs=(do pure (.value (<-s))):=by
 unfold biZ at I|-
 cases z with
 |false=>exact yoz hE hl h I
 |true=>
  simp only at I|-;split at I
  ·rename_i x y
   obtain⟨v,hv,U⟩:=h 0 x rfl;obtain⟨u,hu,hy⟩:=h 1 y rfl
   have:vs= #[v,u]:=by
    apply Wbp;cases vs with|mk l=>cases l with|nil=>simp at hl|cons a r=>cases r with|nil=>simp at hl|cons a' r'=>simp at hl hv hu;simp[hl,hv,hu]
   subst this;exact⟨_,z9s hE U hy,rfl⟩
  ·exact I.elim
open Go.MapKept (IsKey run_checkKey run_findKey heap_set bytes_beq)
def kdD:Option IntKind->TypeDesc
 |none=>.string
 |some q=>.int q
theorem z7a {P:Program} {t k e:TypeId} {kd:Option IntKind} (h:tMp P t=some (k,kd,e)):
  P.underlying t=some (.map k e)/\P.underlying k=some (kdD kd):=by
 unfold tMp at h;split at h
 ·rename_i hu
  split at h
  ·rename_i I;cases h;exact⟨hu,I⟩
  ·rename_i I;cases h;exact⟨hu,I⟩
  ·cases h
 ·cases h
theorem yb2 {E:Env} {kd:Option IntKind} {a b:C} {va U:Value} (ha:CRel E a va) (hb:CRel E b U) (hk:keyB kd a=true) {r:Bool} (h:zxl a b=some r):
  Instr.sameNow (kdD kd) va U=some r:=by
 cases a<;>cases b<;>simp only[zxl]at h<;>try (cases h;done)
 ·obtain⟨rfl,_⟩:=int_inv ha
  obtain⟨rfl,_⟩:=int_inv hb
  cases kd with
  |none=>simp[keyB]at hk
  |some q=>
   split at h
   ·rename_i e;subst e;cases h;simp only[kdD,Instr.sameNow,if_true,WaP];exact z6s (α:=Int) _ _
   ·cases h
 ·obtain⟨x,rfl,h1,_⟩:=str_inv ha
  obtain⟨y,rfl,h2,_⟩:=str_inv hb
  cases kd with
  |some q=>simp[keyB]at hk
  |none=>
   cases h;simp only[kdD,Instr.sameNow,WaP];subst h1;subst h2;rw[Wa1,decide_eq_true_eq,bytes_beq];constructor
   ·intro I;rw[I]
   ·intro I
    cases x with|mk x=>cases y with|mk y=>
    have:x=y:=by simpa using I
    rw[this]
theorem yai {E:Env} {kd:Option IntKind} {a b:C} {va I:Value} (ha:CRel E a va) (hb:CRel E b I) (h:zxl a b=some true):Instr.sameBits 10000 I va=true:=by
 cases a<;>cases b<;>simp only[zxl]at h<;>try (cases h;done)
 ·obtain⟨rfl,_⟩:=int_inv ha
  obtain⟨rfl,_⟩:=int_inv hb;split at h
  ·rename_i e;subst e
   simp at h;subst h;simp[Instr.sameBits]
  ·cases h
 ·obtain⟨x,rfl,h1,_⟩:=str_inv ha
  obtain⟨y,rfl,h2,_⟩:=str_inv hb;simp at h
  have:x=y:=by
   cases x with|mk x=>cases y with|mk y=>
   have:x=y:=by subst h1;subst h2;simpa using h
   rw[this]
  subst this;exact(bytes_beq x x).2 rfl
theorem z0l {E:Env} {kd:Option IntKind} {a:C} {va:Value} (ha:CRel E a va) (U:keyB kd a=true):∀{es:List (C×C)} {l:List MapEntry} (i:Nat) {r:Option C},l.length=es.length->
  (∀(j:Nat) (k x:C),es[j]? =some (k,x)->∃e:MapEntry,l[j]? =some e/\CRel E k e.key/\CRel E x e.val)->z1c a es=some r->
  (r=none/\Instr.findNow (kdD kd) va l i=some none)\/
  (∃x v j,r=some x/\CRel E x v/\Instr.findNow (kdD kd) va l i=some (some (i+j,v)))
 |[],l,i,r,hl,he,h=>by
  have:l=[]:=WaJ hl
  subst this;simp[z1c]at h;subst h;exact .inl ⟨rfl,rfl⟩
 |(k',v')::es,l,i,r,hl,he,h=>by
  obtain⟨e,I,h1,h2⟩:=he 0 k' v' rfl
  cases l with
  |nil=>simp at I
  |cons e0 l=>
   simp at I;subst I;simp only[z1c]at h
   cases hq:zxl a k' with
   |none=>simp[hq]at h
   |some q=>
    have hn:=yb2 ha h1 U hq
    cases q with
    |true=>
     simp[hq]at h;subst h;exact .inr ⟨v',e0.val,0,rfl,h2,by simp[Instr.findNow,hn]⟩
    |false=>
     simp only[hq]at h
     rcases z0l ha U (i+1) (es:=es) (l:=l) (by simpa using hl) (fun j k x hj=>by simpa using he (j+1) k x (by simpa using hj)) h with⟨h3,h4⟩|⟨x,v,j,h3,h4,h5⟩
     ·exact .inl ⟨h3,by simp[Instr.findNow,hn,h4]⟩
     ·exact .inr ⟨x,v,j+1,h3,h4,by simp[Instr.findNow,hn,h5];omega⟩
theorem z7t {E:Env} {kd:Option IntKind} {a b:C} {va vb:Value} (ha:CRel E a va) (hb:CRel E b vb) (hk:keyB kd a=true):∀{es I:List (C×C)} {l:List MapEntry} (i:Nat),l.length=es.length->
  (∀(j:Nat) (k x:C),es[j]? =some (k,x)->∃e:MapEntry,l[j]? =some e/\CRel E k e.key/\CRel E x e.val)->mput a b es=some I->
  (Instr.findNow (kdD kd) va l i=some none/\I=es++[(a,b)])\/
  (∃j e U,Instr.findNow (kdD kd) va l i=some (some (i+j,e.val))/\l[j]? =some e/\CRel E U e.key/\zxl a U=some true/\I=es.set j (a,b)/\j<es.length)
 |[],I,l,i,hl,he,h=>by
  have:l=[]:=WaJ hl
  subst this;simp[mput]at h;subst h;exact .inl ⟨rfl,rfl⟩
 |(U,v')::es,I,l,i,hl,he,h=>by
  obtain⟨e,aa,h1,h2⟩:=he 0 U v' rfl
  cases l with
  |nil=>simp at aa
  |cons e0 l=>
   simp at aa;subst aa;simp only[mput]at h
   cases hq:zxl a U with
   |none=>simp[hq]at h
   |some q=>
    have hn:=yb2 ha h1 hk hq
    cases q with
    |true=>
     simp[hq]at h;subst h;exact .inr ⟨0,e0,U,by simp[Instr.findNow,hn],rfl,h1,hq,by simp,by simp⟩
    |false=>
     simp only[hq]at h
     cases hm:mput a b es with
     |none=>simp[hm]at h
     |some l2=>
      simp[hm]at h;subst h
      rcases z7t ha hb hk (i+1) (es:=es) (l:=l) (by simpa using hl) (fun j k x hj=>by simpa using he (j+1) k x (by simpa using hj)) hm with⟨h3,h4⟩|⟨j,e,k2,h3,h4,h5,h6,h7,h8⟩
      ·exact .inl ⟨by simp[Instr.findNow,hn,h3],by simp[h4]⟩
      ·exact .inr ⟨j+1,e,k2,by simp[Instr.findNow,hn,h3];omega,by simpa using h4,h5,h6,by simp[h7],by simp;omega⟩
theorem yge {E:Env} {kd:Option IntKind} {a:C} {va:Value} (ha:CRel E a va) (I:keyB kd a=true):IsKey (kdD kd) va:=by
 cases a<;>simp only[keyB]at I<;>try (cases I;done)
 ·obtain⟨rfl,_⟩:=int_inv ha
  cases kd with
  |none=>cases I
  |some q=>simp at I;simp[kdD,IsKey,I]
 ·obtain⟨x,rfl,h1,_⟩:=str_inv ha
  cases kd with
  |some q=>cases I
  |none=>simp[kdD,IsKey]
theorem z9e {P:Program} {E:Env} (hE:HRel E) {t:TypeId} {m k:V} {vm vk:Value} {ok:Bool} (hm:VRel E m vm) (hk:VRel E k vk):Good P E (Instr.lookup t vm vk ok) (zsc P t m k ok E.H):=by
 unfold zsc z0r;split
 case h_2=>exact .bad
 rename_i kt kd e id kc ht;split
 case h_2=>exact .bad
 rename_i es z ho hz ae;obtain⟨hu,af⟩:=z7a ht;obtain⟨iz,zv,ak,al,an⟩:=zz7 hz
 have ao:vm=.map (some (E.bd id).blk):=by
  cases one_inv hm with
  |mp hid hc h=>exact h es ho
 subst ao;obtain⟨ab,clock,hb,hsz,ai⟩:=hE.obj id _ ho
 have aj:=one_inv hk
 have ad:VRel E (.one z) zv:=by rw[an];exact V.ofV_rel E zv
 have hzero:(zeroValue e).run P E.w=.ok zv E.w:=by simp[zeroValue,typeInfo,ak,al]
 have U:=run_checkKey (P:=P) (w:=E.w) af (yge aj ae) ab.isEmpty 9999
 split
 ·rename_i v hf
  rcases z0l aj ae (l:=ab.toList) 0 (by simpa using hsz) (fun j k x I=>by simpa using ai j k x I) hf with⟨h1,_⟩|⟨x,v',j,h1,h2,h3⟩
  ·cases h1
  ·cases h1
   have aa:=run_findKey (P:=P) (w:=E.w) af h3
   split
   ·exact .ok hE ⟨.tuple #[v',.bool true],by simp[Instr.lookup,run_underlying hu,Go.MapKept.run_getObj_map hb,U,aa],.tup rfl (fun j x I=>by
     match j,I with
     |0,I=>simp at I;subst I;exact .one h2
     |1,I=>simp at I;subst I;exact .one .bool)⟩
   ·exact .ok hE ⟨v',by simp[Instr.lookup,run_underlying hu,Go.MapKept.run_getObj_map hb,U,aa],.one h2⟩
 ·rename_i hf
  rcases z0l aj ae (l:=ab.toList) 0 (by simpa using hsz) (fun j k x I=>by simpa using ai j k x I) hf with⟨_,h2⟩|⟨x,v',j,h1,h2,h3⟩
  ·have aa:=run_findKey (P:=P) (w:=E.w) af h2
   split
   ·exact .ok hE ⟨.tuple #[zv,.bool false],by simp[Instr.lookup,run_underlying hu,Go.MapKept.run_getObj_map hb,U,aa,hzero],.tup rfl (fun j x I=>by
     match j,I with
     |0,I=>simp at I;subst I;exact ad
     |1,I=>simp at I;subst I;exact .one .bool)⟩
   ·exact .ok hE ⟨zv,by simp[Instr.lookup,run_underlying hu,Go.MapKept.run_getObj_map hb,U,aa,hzero],ad⟩
  ·cases h1
 ·exact .bad
theorem z1w {P:Program} {E:Env} (hE:HRel E) {t:TypeId} {m k v:V} {vm vk vv:Value} (hm:VRel E m vm) (hk:VRel E k vk) (hv:VRel E v vv):GoodU P E (Instr.mapUpdate t vm vk vv) (zwx P t m k v E.H):=by
 unfold zwx;split
 case h_2=>exact .bad
 rename_i kt kd e id kc vc ht;split
 case h_2=>exact .bad
 rename_i es ho ao;split
 case h_2=>exact .bad
 rename_i ae ar;rintro-;refine⟨trivial,rfl,?_⟩;obtain⟨hu,ai⟩:=z7a ht
 have au:vm=.map (some (E.bd id).blk):=by
  cases one_inv hm with
  |mp hid hc h=>exact h es ho
 subst au;obtain⟨aa,clock,hb,hsz,ad⟩:=hE.obj id _ ho
 have ab:=one_inv hk
 have aj:=one_inv hv
 have ak:=run_checkKey (P:=P) (w:=E.w) ai (yge ab ao) false 9999
 have af:E.live id (.map es):=trivial
 have fin:∀(I:Array MapEntry) (U:Nat),I.size=ae.length->
   (∀(E':Env),Trans E E'->∀(i:Nat) (k x:C),ae[i]? =some (k,x)->∃e:MapEntry,I[i]? =some e/\CRel E' k e.key/\CRel E' x e.val)->
   (Instr.mapUpdate t (.map (some (E.bd id).blk)) vk vv).run P E.w=.ok () {E.w with heap:=E.w.heap.setIfInBounds (E.bd id).blk (.map I U)}->
   ∃E',(Instr.mapUpdate t (.map (some (E.bd id).blk)) vk vv).run P E.w=.ok () E'.w/\E'.H=E.H.set id (.map ae)/\HRel E'/\Trans E E':=by
  intro I U h1 h2 h3;obtain⟨g1,g2⟩:=heap_set (o':=.map I U) hb
  obtain⟨tr,hh⟩:=zof hE id (.map es) (.map ae) {E.w with heap:=E.w.heap.setIfInBounds (E.bd id).blk (.map I U)} (E.bd id) ho (by simp) rfl rfl rfl
   (fun b _ al=>g2 b (al af)) (fun _ _ _ e=>by cases e) (fun ay e=>⟨es,rfl,rfl⟩) _ rfl (fun _=>.inl ⟨af,rfl⟩)
  refine⟨_,h3,rfl,hh ?_,tr⟩;refine⟨I,U,?_,h1,fun i k x hi=>h2 _ tr i k x hi⟩;simp only[if_true];exact g1
 rcases z7t ab aj ao (l:=aa.toList) 0 (by simpa using hsz) (fun j k x hj=>by simpa using ad j k x hj) ar with⟨h1,h2⟩|⟨j,e0,k2,h1,h2,h3,h4,h5,h6⟩
 ·have an:=run_findKey (P:=P) (w:=E.w) ai h1
  refine fin (aa.push {key:=vk,val:=vv,born:=clock}) (clock+1) (by simp[h2,hsz]) (fun E' tr i k x hi=>?_) ?_
  ·rw[h2]at hi
   rw[Wbm]at hi;split at hi
   ·rename_i aq
    obtain⟨e1,q1,q2,q3⟩:=ad i k x hi;exact⟨e1,by rw[Array.getElem?_push,if_neg (by omega)];exact q1,q2.trans tr,q3.trans tr⟩
   ·rename_i az
    have av:i=es.length:=by
     have:=(Wag.1 hi).1
     simp at this;omega
    subst av;simp at hi;obtain⟨rfl,rfl⟩:=hi;exact⟨_,by rw[Array.getElem?_push,if_pos (by omega)],ab.trans tr,aj.trans tr⟩
  ·simp[Instr.mapUpdate,run_underlying hu,Go.MapKept.run_getObj_map hb,ak,an,Go.MapKept.run_setObj_map _ hb]
 ·have an:=run_findKey (P:=P) (w:=E.w) ai h1
  have aw:aa[j]? =some e0:=by simpa using h2
  have ax:=yai (kd:=kd) ab h3 h4
  refine fin (aa.modify j fun e=>{e with key:=vk,val:=vv}) clock (by simp[h5,hsz]) (fun E' tr i k x hi=>?_) ?_
  ·rw[h5,Wa9]at hi
   split at hi
   ·rename_i e;subst e
    simp[h6]at hi;obtain⟨rfl,rfl⟩:=hi
    have aq:j<aa.size:=by omega
    refine⟨{aa[j]with key:=vk,val:=vv},by rw[Wb2,if_pos rfl,WaR aq];rfl,ab.trans tr,aj.trans tr⟩
   ·rename_i al
    obtain⟨e1,q1,q2,q3⟩:=ad i k x hi;exact⟨e1,by rw[Wb2,if_neg al];exact q1,q2.trans tr,q3.trans tr⟩
  ·simp[Instr.mapUpdate,run_underlying hu,Go.MapKept.run_getObj_map hb,ak,an,aw,Instr.keyThatStays,ax,Go.MapKept.run_setObj_map _ hb]
def WpV (P:Program) (o:Oper) (a:Act) (E:Env) (r:R):Prop:=
 r.fact/\∀(K:Act->World->Prop) (Q:Exit->Act->World->Prop),(∀v E',VRel E' r.v v->E'.H=r.h->HRel E'->Trans E E'->K (a.put o.dst v) E'.w)->o.wp P a E.w K Q
theorem WpV.value {P:Program} {o:Oper} {a:Act} {E:Env} {r:R} {s:Sem Value} (U:Good P E s r) (hp:r.pre) (he:execOp a.eval o=(do pure (.value (<-s)))):WpV P o a E r:=by
 obtain⟨hf,v,E',I,hH,hv,hh,tr⟩:=U hp;refine⟨hf,fun K Q hK=>?_⟩;unfold Oper.wp;rw[he];simp only[Sem.run_bind,I,Result.andThen_ok,Sem.run_pure];exact hK v E' hv hH hh tr
theorem WpV.skip {P:Program} {o:Oper} {a:Act} {E:Env} {r:R} {s:Sem Unit} (U:GoodU P E s r) (hp:r.pre) (he:execOp a.eval o=(do s;pure .skip)):WpV P o a E r:=by
 obtain⟨hf,hv,E',I,hH,hh,tr⟩:=U hp;refine⟨hf,fun K Q hK=>?_⟩;unfold Oper.wp;rw[he];simp only[Sem.run_bind,I,Result.andThen_ok,Sem.run_pure];exact hK undef E' (by rw[hv];exact .un) hH hh tr
theorem z4e {E:Env} {a:Act} {ρ:Operand->V} (U:∀x,VRel E (ρ x) (a.eval x)) (parts:Array (Nat×Operand)):
  (parts.toList.map fun p=>(p.1,ρ p.2)).length=(parts.map fun(i,x)=>(i,a.eval x)).size/\
  ∀(k:Nat) (i:Nat) (x:V),(parts.toList.map fun p=>(p.1,ρ p.2))[k]? =some (i,x)->∃v,(parts.map fun(i,x)=>(i,a.eval x))[k]? =some (i,v)/\VRel E x v:=by
 refine⟨by simp,fun k i x I=>?_⟩;simp only[Wao,Wal]at I;obtain⟨p,hp,e⟩:=I;cases e;refine⟨a.eval p.2,?_,U _⟩;simp only[WbV,Wal];exact⟨p,by simpa using hp,rfl⟩
theorem z8m {E:Env} {a:Act} {ρ:Operand->V} (U:∀x,VRel E (ρ x) (a.eval x)) (args:Array Operand):
  (args.toList.map ρ).length=(args.map a.eval).size/\∀(j:Nat) (x:V),(args.toList.map ρ)[j]? =some x->∃v,(args.map a.eval)[j]? =some v/\VRel E x v:=by
 refine⟨by simp,fun j x I=>?_⟩;simp only[Wao,Wal]at I;obtain⟨p,hp,rfl⟩:=I;exact⟨a.eval p,by simp only[WbV,Wal];exact⟨p,by simpa using hp,rfl⟩,U _⟩
theorem z5r {E:Env} {a:Act} {ρ:Operand->V} (U:∀x,VRel E (ρ x) (a.eval x)) (x:Option Operand):z6w E (x.map ρ) (x.map a.eval):=by
 cases x with
 |none=>exact⟨by simp,fun _=>rfl⟩
 |some y=>exact⟨fun z I=>by simp at I;exact⟨_,rfl,I▸U y⟩,by simp⟩
theorem yad {P:Program} {o:Oper} {a:Act} {E:Env} {ρ:Operand->V} (hE:HRel E) (hρ:∀x,VRel E (ρ x) (a.eval x)) (I:(zdu P o.pos o.op ρ E.H).pre):WpV P o a E (zdu P o.pos o.op ρ E.H):=by
 cases U:o.op<;>rw[U]at I<;>simp only[zdu]at I|-
 case move x=>exact .value (s:=pure (a.eval x)) (.ok hE ⟨_,rfl,hρ x⟩) I (by simp[execOp,U])
 case assign x=>exact .value (s:=pure (a.eval x)) (.ok hE ⟨_,rfl,hρ x⟩) I (by simp[execOp,U])
 case pick c x y=>
  refine .value (yef hE (hρ c) (hρ x) (hρ y)) I ?_;simp[execOp,U]
 case alloc t=>
  split at I
  ·rename_i z hz
   split at I
   ·rename_i zs ae
    exact .value (yfu hE hz ae (.tuple #[])) I (by simp[execOp,U])
   ·exact I.elim
  ·exact I.elim
 case box t x=>
  split at I
  ·rename_i cs ab
   exact .value (you (t:=t) hE (hρ x) ab) I (by simp[execOp,U])
  ·exact I.elim
 case load t x=>exact .value (yeu hE (hρ x)) I (by simp[execOp,U])
 case store t x y=>exact .skip (z3t hE (hρ x) (hρ y)) I (by simp[execOp,U])
 case nilCheck x=>
  have hx:=hρ x
  split at I
  ·rename_i id ver r off aa
   rw[aa]at hx;split at I
   ·rename_i cur sz rows ho
    have hv:=zxd (one_inv hx) ho I
    refine .value (s:=pure (a.eval x)) (.same hE fun _=>⟨trivial,_,rfl,rfl,hx⟩) I ?_;simp[execOp,U,hv]
   ·exact I.elim
  ·rename_i r off aa
   rw[aa]at hx;obtain⟨b,o',hv,_⟩:=zxa (one_inv hx);refine .value (s:=pure (a.eval x)) (.ok hE ⟨_,rfl,hx⟩) I ?_;simp[execOp,U,hv]
  ·exact I.elim
 case binOp op t x y yt=>
  have hg:=z9r (P:=P) (hρ x) (hρ y) I x y
  have hb:=ykm (P:=P) (op:=op) (t:=t) hE (hρ x) (hρ y)
  refine .value (s:=do eqGuard op t x y (a.eval x) (a.eval y);binOp op t (a.eval x) (a.eval y)) (fun I=>?_) I (by simp[execOp,U])
  obtain⟨hf,v,E',ad,rest⟩:=hb I;exact⟨hf,v,E',by simp[hg,ad],rest⟩
 case unOp op t x=>exact .value (yk6 hE (hρ x)) I (by simp[execOp,U])
 case convert s d x=>exact .value (yfm hE (hρ x)) I (by simp[execOp,U])
 case makeInterface t x=>exact .value (z88 hE (hρ x)) I (by simp[execOp,U])
 case typeAssert x xt a ok=>exact .value (z09 (xt:=xt) hE (hρ x)) I (by simp[execOp,U])
 case makeFunc fn first cap=>
  cases fn with
  |func f=>
   simp only at I|-;split at I
   ·rename_i h0
    rw[if_pos h0];split at I
    ·rename_i cs ab
     obtain⟨h1,h2⟩:=z8m hρ cap
     have hf:first= #[]:=by simpa using h0
     exact .value (z4k hE h1 h2 ab) I (by simp[execOp,U,hf])
    ·exact I.elim
   ·exact I.elim
  |_=>exact I.elim
 case makeMap t r=>
  cases r with
  |none=>exact .value (z5y (t:=t) hE) I (by simp[execOp,U])
  |some _=>exact I.elim
 case lookup t x k ok=>exact .value (z9e hE (hρ x) (hρ k)) I (by simp[execOp,U])
 case mapUpdate t m k x=>exact .skip (z1w hE (hρ m) (hρ k) (hρ x)) I (by simp[execOp,U])
 case insert t m k x=>exact .skip (z1w hE (hρ m) (hρ k) (hρ x)) I (by simp[execOp,U])
 case makeSlice t l c=>exact .value (z2x hE (hρ l) (hρ c)) I (by simp[execOp,U])
 case slice t x lo hi mx=>
  split at I
  ·exact I.elim
  ·rename_i hm
   rw[if_neg hm];exact .value (yae hE (hρ x) (z5r hρ lo) (z5r hρ hi) (z5r hρ mx) (fun h=>by cases hi<;>cases mx<;>simp_all)) I (by simp[execOp,U])
 case fieldAddr t x f=>exact .value (z3b hE (hρ x)) I (by simp[execOp,U])
 case field t x f=>exact .value (ycm hE (hρ x)) I (by simp[execOp,U])
 case indexAddr t x i=>exact .value (z20 hE (hρ x) (hρ i)) I (by simp[execOp,U])
 case index t x i=>exact .value (yb7 hE (hρ x) (hρ i)) I (by simp[execOp,U])
 case extract x i=>
  have hx:=hρ x
  split at I
  ·rename_i vs aa
   rw[aa]at hx;split at I
   ·rename_i v hv
    exact .value (z6c hE hx hv) I (by simp[execOp,U])
   ·exact I.elim
  ·exact I.elim
 case build t parts=>
  obtain⟨h1,h2⟩:=z4e hρ parts;exact .value (yc6 hE h1 h2) I (by simp[execOp,U])
 case buildSlice t n parts=>
  obtain⟨h1,h2⟩:=z4e hρ parts;exact .value (z1h hE h1 h2) I (by simp[execOp,U])
 case call c=>
  obtain⟨callee,args,af⟩:=c
  cases callee with
  |builtin b=>
   simp only at I|-;obtain⟨h1,h2⟩:=z8m hρ args
   obtain⟨s,hg,he⟩:=yoy (P:=P) (ty:=o.type) (consts:=args.map fun|.const _=>true|_=>false) hE h1 h2 I
   refine .value hg I ?_;simp only[execOp,U,resolve];exact he
  |value f=>exact I.elim
  |invoke r m=>exact I.elim
 all_goals exact I.elim
end Go.Lz

end
