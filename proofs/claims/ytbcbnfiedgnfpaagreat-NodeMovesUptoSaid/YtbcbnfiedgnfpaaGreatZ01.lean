import Derived.WalkKit
import Derived.Below
import Derived.Lib.Hide
import Derived.Laws.OwnMore
import Derived.Laws.CopyRow
import Derived.Laws.CopyOwn
import Derived.Laws.Rows
import Derived.Laws.MakeOwn
import Derived.Laws.BytesArg
import Derived.Deep.Draws
import Derived.Deep.AppendLies
import Derived.Maps.AppendAt
import Derived.StillTailTactics
import Derived.Lib.Overlaps
import Derived.Lib.AppendZerosOnto
set_option linter.unusedSimpArgs false
set_option linter.unusedVariables false
set_option maxRecDepth 100000
set_option maxHeartbeats 2000000
namespace Go.Ed
open Go.RowKit
section
def Blk (w:World) (g:Nat) (t:TypeId) (cs:Array Value):Prop:=w.heap[g]? =some (.cells cs t (0,0))
structure yi (S:Nat→Prop) (w w':World):Prop where
 os:w'.os=w.os
 tape:w'.tape=w.tape
 output:w'.output=w.output
 size:w.heap.size≤w'.heap.size
 block: ∀k,k<w.heap.size→¬S k→w'.heap[k]? =w.heap[k]?
section
variable {S T:Nat→Prop} {w w' w'':World} {g:Nat} {t:TypeId} {cs:Array Value}
theorem Blk.lt (h:Blk w g t cs):g<w.heap.size:=by
 rcases Nat.lt_or_ge g w.heap.size with hlt|hge
 ·exact hlt
 ·unfold Blk at h;rw[Array.getElem?_eq_none hge]at h;cases h
theorem Blk.cell (h:Blk w g t cs) (i:Nat):w.cell? ⟨g,i,none⟩=cs[i]? :=cell_of_row w g i cs t (0,0) h
theorem Blk.frozen (h:Blk w g t cs) (i:Nat):w.frozen? ⟨g,i,none⟩=false:=by
 unfold Blk at h
 simp[World.frozen?,h]
theorem Blk.new (w:World) (t:TypeId) (cs:Array Value):Blk (w.alloc (.cells cs t)) w.heap.size t cs:=heap_alloc_new w _
theorem Blk.new' {w:World} {t:TypeId} {cs:Array Value} {g:Nat} (h:g=w.heap.size):Blk (w.alloc (.cells cs t)) g t cs:=by subst h;exact Blk.new _ _ _
theorem Blk.drew (h:Blk w g t cs):Blk w.drew g t cs:=h
theorem Blk.alloc (h:Blk w g t cs) (o:Obj):Blk (w.alloc o) g t cs:=(Below.heap_alloc w o g h.lt).trans h
theorem Blk.set_ (h:Blk w g t cs) (i:Nat) (u:Value):Blk (w.setCell ⟨g,i,none⟩ u) g t (cs.setIfInBounds i u):=by
 unfold Blk at h ⊢
 simp[World.setCell,Array.getElem?_modify,h]
theorem Blk.far (h:Blk w g t cs) {p:Addr} (hp:g≠p.block) (u:Value):Blk (w.setCell p u) g t cs:=(Below.heap_setCell w p u g hp).trans h
theorem Blk.setRow_ (h:Blk w g t cs) (ds:Array Value):Blk (w.setRow g ds) g t ds:=setRow_heap w g cs ds t (0,0) h
theorem Blk.setRow_far (h:Blk w g t cs) {k:Nat} (hk:g≠k) (ds:Array Value):Blk (w.setRow k ds) g t cs:=(setRow_other w k g ds hk).trans h
theorem Blk.below {B:Nat} (h:Blk w g t cs) (hb:Below B w w') (hg:g<B):Blk w' g t cs:=(hb.block g hg).trans h
theorem Blk.grown {row:Option Nat} (h:Blk w g t cs) (hb:w.grownBy w' row) (hg:some g≠row):Blk w' g t cs:=(hb.block g h.lt hg).trans h
theorem Blk.chg (h:Blk w g t cs) (hb:yi S w w') (hg: ¬S g):Blk w' g t cs:=(hb.block g h.lt hg).trans h
theorem yi.refl (S:Nat→Prop) (w:World):yi S w w:=⟨rfl,rfl,rfl,Nat.le_refl _,fun _ _ _=>rfl⟩
theorem yi.trans (h:yi S w w') (k:yi S w' w''):yi S w w'':=
 ⟨k.os.trans h.os,k.tape.trans h.tape,k.output.trans h.output,Nat.le_trans h.size k.size,fun i hi hS=>(k.block i (Nat.lt_of_lt_of_le hi h.size) hS).trans (h.block i hi hS)⟩
theorem yi.trans' (h:yi S w w') (k:yi T w' w'') (hT: ∀i,i<w.heap.size→T i→S i):yi S w w'':=
 ⟨k.os.trans h.os,k.tape.trans h.tape,k.output.trans h.output,Nat.le_trans h.size k.size,fun i hi hS=>(k.block i (Nat.lt_of_lt_of_le hi h.size) (fun x=>hS (hT i hi x))).trans (h.block i hi hS)⟩
theorem yi.mono (h:yi S w w') (hT: ∀i,S i→T i):yi T w w':=⟨h.os,h.tape,h.output,h.size,fun i hi hS=>h.block i hi fun x=>hS (hT i x)⟩
theorem yi.drew (h:yi S w w'):yi S w w'.drew:=⟨h.os,h.tape,h.output,h.size,h.block⟩
theorem yi.alloc (h:yi S w w') (o:Obj):yi S w (w'.alloc o):=
 ⟨h.os,h.tape,h.output,Nat.le_trans h.size (by simp),fun i hi hS=>(Below.heap_alloc w' o i (Nat.lt_of_lt_of_le hi h.size)).trans (h.block i hi hS)⟩
theorem yi.setCell (h:yi S w w') {p:Addr} (hp:p.block<w.heap.size→S p.block) (u:Value):yi S w (w'.setCell p u):=
 ⟨h.os,h.tape,h.output,by simpa[World.setCell]using h.size,fun i hi hS=>(Below.heap_setCell w' p u i (by rintro rfl;exact hS (hp hi))).trans (h.block i hi hS)⟩
theorem yi.setRow (h:yi S w w') {k:Nat} (hp:k<w.heap.size→S k) (ds:Array Value):yi S w (w'.setRow k ds):=
 ⟨h.os,h.tape,h.output,by simpa using h.size,fun i hi hS=>(setRow_other w' k i ds (by rintro rfl;exact hS (hp hi))).trans (h.block i hi hS)⟩
theorem yi.below {B:Nat} (h:yi S w w') (hS: ∀i,S i→B≤i) (hB:B≤w.heap.size):Below B w w':=
 ⟨h.os,h.tape,h.output,h.size,fun i hi=>h.block i (Nat.lt_of_lt_of_le hi hB) (fun x=>by have:=hS i x;omega)⟩
theorem yi.of_below (h:Below w.heap.size w w') (S:Nat→Prop):yi S w w':=⟨h.os,h.tape,h.output,h.size,fun i hi _=>h.block i hi⟩
theorem yi.of_grown {row:Option Nat} (h:w.grownBy w' row) (hS: ∀i,some i=row→S i):yi S w w':=
 ⟨h.os,h.tape,h.output,h.size,fun i hi hn=>h.block i hi (fun e=>hn (hS i e))⟩
end
def aggD:TypeDesc→Bool
 | .struct _| .array _ _=>true
 | _=>false
section
variable {P:Program}
theorem zkt {ty:TypeId} {d:TypeDesc} (hu:P.underlying ty=some d) (hd:aggD d=true) (w:World):(isAgg ty).run P w= .ok true w:=by
 unfold isAgg
 rw[Sem.run_bind,run_underlying hu w]
 cases d<;>simp_all[aggD]
theorem zgg (w:World) (g off k:Nat) (t ty:TypeId) (cs:Array Value) (fr:Nat×Nat) (d:TypeDesc) (hg:w.heap[g]? =some (.cells cs t fr))
  (hu:P.underlying ty=some d) (hd:aggD d=true) (hi:(P.info? ty).map (·.size)=some k) (hk:off+k≤cs.size):
  (loadVar ty ⟨g,off,none⟩).run P w= .ok (.agg (cs.extract off (off+k))) w:=by
 have hlen:((cs.extract off (off+k)).toList).length=k:=by simp;omega
 have hl:(loadCells ⟨g,off,none⟩ ((cs.extract off (off+k)).toList).length).run P w= .ok ((cs.extract off (off+k)).toList).toArray w:=
  run_loadCells_list (P:=P) w ⟨g,off,none⟩ _ (fun j v hv=>by
   have hadd:(⟨g,off,none⟩:Addr).add j=⟨g,off+j,none⟩:=by unfold Addr.add;split<;>simp_all
   rw[hadd,cell_of_row w g (off+j) cs t fr hg]
   have hj:j<k:=by
    rcases Nat.lt_or_ge j k with h|h
    ·exact h
    ·rw[List.getElem?_eq_none (by rw[hlen];exact h)]at hv;cases hv
   have:((cs.extract off (off+k)).toList)[j]? =cs[off+j]? :=by
    rw[Array.getElem?_toList,Array.getElem?_extract]
    simp;omega
   rw[←this];exact hv)
 rw[hlen,Array.toArray_toList]at hl
 cases hq:P.info? ty with
 |none=>simp[hq]at hi
 |some i=>
  have hs:i.size=k:=by simpa[hq]using hi
  simp only[loadVar,Sem.run_bind,zkt hu hd,sizeOf,typeInfo]
  simp[hq,hs,hl]
theorem QC (w:World) (g off k:Nat) (t ty:TypeId) (cs vs:Array Value) (hg:w.heap[g]? =some (.cells cs t (0,0)))
  (hi:(P.info? ty).map (·.size)=some k) (hvs:vs.size=k) (hk:off+k≤cs.size) (h1: ∀v∈vs.toList,v.oneCell'=true):
  (storeVar ty ⟨g,off,none⟩ (.agg vs)).run P w= .ok () (w.setRow g (cs.toList.take off++vs.toList++cs.toList.drop (off+k)).toArray):=by
 have hst:=run_storeCells_at P g off t vs.toList 0 cs w hg (by simp[hvs];omega) h1
 cases hq:P.info? ty with
 |none=>simp[hq]at hi
 |some i=>
  have hs:i.size=k:=by simpa[hq]using hi
  have hvs':vs.toList.length=k:=by simpa using hvs
  simp only[Nat.add_zero,hvs']at hst
  simp[storeVar,Value.cells,sizeOf,typeInfo,hq,hs,hvs,hst]
theorem zn7 {o:Oper} {a:Act} {w:World} {K:Act→World→Prop} {Q:Exit→Act→World→Prop} (ty:TypeId) (x:Operand) (ho:o.op= .load ty x)
  (g off k:Nat) (hx:a.eval x= .pointer (some ⟨g,off,none⟩)) (t:TypeId) (cs:Array Value) (fr:Nat×Nat) (d:TypeDesc) (hg:w.heap[g]? =some (.cells cs t fr))
  (hu:P.underlying ty=some d) (hd:aggD d=true) (hi:(P.info? ty).map (·.size)=some k) (hk:off+k≤cs.size)
  (h:K (a.put o.dst (.agg (cs.extract off (off+k)))) w):o.wp P a w K Q:=by
 unfold Oper.wp execOp
 simp only[ho,hx,Instr.loadAt,Instr.sureAddr,Sem.run_bind,Sem.run_pure,Result.andThen_ok,zgg w g off k t ty cs fr d hg hu hd hi hk]
 exact h
theorem zgp {ops:Array Oper} {rest:List Oper} {o:Oper} {a:Act} {w:World} {Q:Exit→Act→World→Prop} (hgd:o.guard=none) (ty:TypeId) (x:Operand) (ho:o.op= .load ty x)
  (g off k:Nat) (hx:a.eval x= .pointer (some ⟨g,off,none⟩)) (t:TypeId) (cs:Array Value) (fr:Nat×Nat) (d:TypeDesc) (hg:w.heap[g]? =some (.cells cs t fr))
  (hu:P.underlying ty=some d) (hd:aggD d=true) (hi:(P.info? ty).map (·.size)=some k) (hk:off+k≤cs.size)
  (h:wpList P ops Q rest (a.put o.dst (.agg (cs.extract off (off+k)))) w):wpList P ops Q (o::rest) a w:=
 wpList_plain hgd fun _ hK=>zn7 ty x ho g off k hx t cs fr d hg hu hd hi hk (hK _ _ h)
theorem zkh {o:Oper} {a:Act} {w:World} {K:Act→World→Prop} {Q:Exit→Act→World→Prop} (ty:TypeId) (x y:Operand) (ho:o.op= .store ty x y)
  (g off k:Nat) (hx:a.eval x= .pointer (some ⟨g,off,none⟩)) (t:TypeId) (cs vs:Array Value) (hy:a.eval y= .agg vs) (hg:w.heap[g]? =some (.cells cs t (0,0)))
  (hi:(P.info? ty).map (·.size)=some k) (hvs:vs.size=k) (hk:off+k≤cs.size) (h1: ∀v∈vs.toList,v.oneCell'=true)
  (h:K (a.put o.dst undef) (w.setRow g (cs.toList.take off++vs.toList++cs.toList.drop (off+k)).toArray)):o.wp P a w K Q:=by
 unfold Oper.wp execOp
 simp only[ho,hx,hy,Instr.storeAt,Instr.sureAddr,Sem.run_bind,Sem.run_pure,Result.andThen_ok,QC w g off k t ty cs vs hg hi hvs hk h1]
 exact h
theorem zet {ops:Array Oper} {rest:List Oper} {o:Oper} {a:Act} {w:World} {Q:Exit→Act→World→Prop} (hgd:o.guard=none) (ty:TypeId) (x y:Operand) (ho:o.op= .store ty x y)
  (g off k:Nat) (hx:a.eval x= .pointer (some ⟨g,off,none⟩)) (t:TypeId) (cs vs:Array Value) (hy:a.eval y= .agg vs) (hg:w.heap[g]? =some (.cells cs t (0,0)))
  (hi:(P.info? ty).map (·.size)=some k) (hvs:vs.size=k) (hk:off+k≤cs.size) (h1: ∀v∈vs.toList,v.oneCell'=true)
  (h:wpList P ops Q rest (a.put o.dst undef) (w.setRow g (cs.toList.take off++vs.toList++cs.toList.drop (off+k)).toArray)):wpList P ops Q (o::rest) a w:=
 wpList_plain hgd fun _ hK=>zkh ty x y ho g off k hx t cs vs hy hg hi hvs hk h1 (hK _ _ h)
end
theorem qA (a:Addr) (n:Nat):(a.add n).block=a.block:=by unfold Addr.add;split<;>rfl
theorem Zn (a:Addr) (i j:Nat):(a.add i).add j=a.add (i+j):=by
 unfold Addr.add
 by_cases hi:i=0<;>by_cases hj:j=0<;>simp[hi,hj,Nat.add_assoc]
theorem z6 (b o n:Nat):(⟨b,o,none⟩:Addr).add n=⟨b,o+n,none⟩:=by unfold Addr.add;split<;>simp_all
def Reads (w:World) (B size:Nat) (A:Option Addr) (n:Nat) (xs:List Value):Prop:=
 xs.length=n*size∧(0<n→∃ad,A=some ad∧ad.block<B∧∀j u,xs[j]? =some u→w.cell? (ad.add j)=some u)
section
variable {w w':World} {B B' size n:Nat} {A:Option Addr} {xs:List Value}
theorem Reads.at_ {k:Nat} (h:Reads w B 1 A n xs) (hk:k<n): ∃ad u,A=some ad∧ad.block<B∧xs[k]? =some u∧w.cell? (ad.add k)=some u:=by
 obtain⟨ad,e,hb,hc⟩:=h.2 (by omega)
 have hl:k<xs.length:=by have:=h.1;omega
 exact⟨ad,xs[k],e,hb,List.getElem?_eq_getElem hl,hc k _ (List.getElem?_eq_getElem hl)⟩
theorem Reads.keep (h:Reads w B size A n xs) (hk: ∀p:Addr,p.block<B→w'.cell? p=w.cell? p):Reads w' B size A n xs:=
 ⟨h.1,fun hn=>by
  obtain⟨ad,e,hb,hc⟩:=h.2 hn
  exact⟨ad,e,hb,fun j u hu=>(hk _ (by rw[qA];exact hb)).trans (hc j u hu)⟩⟩
theorem Reads.below (h:Reads w B size A n xs) (hb:Below B w w'):Reads w' B size A n xs:=h.keep fun _ hp=>hb.cell hp
theorem Reads.drew (h:Reads w B size A n xs):Reads w.drew B size A n xs:=h
theorem Reads.alloc (h:Reads w B size A n xs) (hB:B≤w.heap.size) (o:Obj):Reads (w.alloc o) B size A n xs:=h.keep fun p hp=>World.cell?_alloc_lt w o p (by omega)
theorem Reads.setCell (h:Reads w B size A n xs) {p:Addr} (hB:B≤p.block) (u:Value):Reads (w.setCell p u) B size A n xs:=
 h.keep fun q hq=>World.cell?_setCell_other w p q u (fun e=>by subst e;omega)
theorem Reads.grown (h:Reads w B size A n xs) {row:Option Nat} (hg:w.grownBy w' row) (hB:B≤w.heap.size) (hr: ∀g,row=some g→B≤g):Reads w' B size A n xs:=
 h.keep fun p hp=>World.cell?_of_block (hg.block p.block (by omega) (fun e=>by have:=hr _ e.symm;omega))
theorem Reads.cut (h:Reads w B size A n xs) {k cap:Nat} (hk:k≤n) (hc:n≤cap):
  Reads w B size (if cap=k then A else A.map (·.add (k*size))) (n - k) (xs.drop (k*size)):=by
 refine⟨by rw[List.length_drop,h.1,Nat.sub_mul],fun hn=>?_⟩
 obtain⟨ad,rfl,hb,hcell⟩:=h.2 (by omega)
 rw[if_neg (by omega)]
 refine⟨ad.add (k*size),rfl,by rw[qA];exact hb,fun j u hu=>?_⟩
 rw[Zn]
 exact hcell _ u (by rw[←hu,List.getElem?_drop])
theorem Reads.upto (h:Reads w B size A n xs) {k:Nat} (hk:k≤n):Reads w B size A k (xs.take (k*size)):=by
 refine⟨by rw[List.length_take,h.1];exact Nat.min_eq_left (Nat.mul_le_mul_right _ hk),fun hn=>?_⟩
 obtain⟨ad,rfl,hb,hcell⟩:=h.2 (by omega)
 exact⟨ad,rfl,hb,fun j u hu=>hcell j u (by rw[List.getElem?_take]at hu;split at hu;exact hu;cases hu)⟩
theorem Reads.of_blk {g off:Nat} {t:TypeId} {cs:Array Value} (h:Blk w g t cs) (hl:xs.length=n*size) (hx: ∀j u,xs[j]? =some u→cs[off+j]? =some u):Reads w w.heap.size size (some ⟨g,off,none⟩) n xs:=
 ⟨hl,fun _=>⟨_,rfl,h.lt,fun j u hu=>by rw[z6,h.cell];exact hx j u hu⟩⟩
theorem Z8 {base:Nat} {e:TypeId} {v:Value} (h:w.ownsRow base e size v n xs): ∃A c,v= .slice A n c∧n≤c∧(A=none∨∃g,A=some ⟨g,0,none⟩∧base≤g∧g<w.heap.size):=by
 rcases h.2 with⟨rfl,rfl⟩|⟨g,cap,cur,rfl,hb,hg,hn,_,_,_⟩
 ·exact⟨none,0,rfl,Nat.le_refl _,.inl rfl⟩
 ·refine⟨_,_,rfl,hn,.inr ⟨g,rfl,hb,?_⟩⟩
  rcases Nat.lt_or_ge g w.heap.size with hlt|hge
  ·exact hlt
  ·rw[Array.getElem?_eq_none hge]at hg;cases hg
end
section
variable {P:Program} (w:World)
theorem zb2 (base:Nat) (t ty e:TypeId) (i:TypeInfo) (size:Nat) (ht:P.underlying t=some (.slice e)) (hi:P.info? e=some i)
  (v:Value) (n:Nat) (xs:List Value) (hown:w.ownsRow base e size v n xs) (c:Nat):(Builtin.append_ #[t,t] ty #[v,.slice none 0 c]).run P w= .ok v w:=by
 rcases hown.2 with⟨rfl,rfl⟩|⟨g,cap,cur,rfl,_,_,hnc,_⟩
 ·simp[Builtin.append_,run_underlying ht,sizeOf,typeInfo,hi,Builtin.lenOf,Builtin.firstCells]
 ·simp[Builtin.append_,run_underlying ht,sizeOf,typeInfo,hi,Builtin.lenOf,Builtin.firstCells,hnc,storeCells]
theorem zge (base:Nat) (t ty e:TypeId) (i:TypeInfo) (z:Value) (size bytes:Nat) (ht:P.underlying t=some (.slice e)) (hi:P.info? e=some i) (hz:i.zero=some z)
  (hsize:i.size=size) (hby:i.bytes=bytes) (hzs:z.cells.size=size) (hsz:0<size)
  (v:Value) (n:Nat) (xs:List Value) (hown:w.ownsRow base e size v n xs)
  (B:Nat) (A:Option Addr) (m c:Nat) (news:List Value) (hr:Reads w B size A m news) (h1: ∀u∈news,u.oneCell'=true)
  (h63:n+m≤maxLen) (hbytes:(n+m)*bytes≤140737488355328) (hbase:base≤w.heap.size):
  ∃v' w',(Builtin.append_ #[t,t] ty #[v,.slice A m c]).run P w= .ok v' w'∧w'.ownsRow base e size v' (n+m) (xs++news)∧w.grownBy w' v.ownBlock∧
   (v'.ownBlock=v.ownBlock∨v'.ownBlock=some w.heap.size):=by
 rcases A with _|ad
 ·have hm:m=0:=by
   rcases Nat.eq_zero_or_pos m with h0|h0
   ·exact h0
   ·obtain⟨ad,h,_⟩:=hr.2 h0
    cases h
  subst hm
  have hn:news=[]:=List.eq_nil_of_length_eq_zero (by simpa using hr.1)
  subst hn
  exact⟨v,w,zb2 w base t ty e i size ht hi v n xs hown c,by simpa using hown,World.grownBy.refl w _,.inl rfl⟩
 ·have hcells: ∀j u,news[j]? =some u→w.cell? (ad.add j)=some u:=by
   intro j u hu
   rcases Nat.eq_zero_or_pos m with h0|h0
   ·subst h0
    have hn:news=[]:=List.eq_nil_of_length_eq_zero (by simpa using hr.1)
    subst hn
    simp at hu
   ·obtain⟨ad',h,_,hc⟩:=hr.2 h0
    injection h with h
    subst h
    exact hc j u hu
  obtain⟨v',w',hrun,h2,h3,_,h5⟩:=run_append_own_at (P:=P) w base t ty e i z size bytes ht hi hz hsize hby hzs hsz v n xs hown ad m c news hr.1 hcells h1 h63 hbytes hbase
  exact⟨v',w',hrun,h2,h3,h5⟩
theorem zbk {o:Oper} {a:Act} {K:Act→World→Prop} {Q:Exit→Act→World→Prop} (s x:Operand) (t:TypeId)
  (ho:o.op= .call {callee:=.builtin .append,args:=#[s,x],argTypes:=#[t,t]})
  (base:Nat) (e:TypeId) (i:TypeInfo) (z:Value) (size bytes:Nat) (ht:P.underlying t=some (.slice e)) (hi:P.info? e=some i) (hz:i.zero=some z)
  (hsize:i.size=size) (hby:i.bytes=bytes) (hzs:z.cells.size=size) (hsz:0<size)
  (v:Value) (n:Nat) (xs:List Value) (hs:a.eval s=v) (hown:w.ownsRow base e size v n xs)
  (B:Nat) (A:Option Addr) (m c:Nat) (news:List Value) (hx:a.eval x= .slice A m c) (hr:Reads w B size A m news) (h1: ∀u∈news,u.oneCell'=true)
  (h63:n+m≤maxLen) (hbytes:(n+m)*bytes≤140737488355328) (hbase:base≤w.heap.size)
  (h: ∀v' w',w'.ownsRow base e size v' (n+m) (xs++news)→w.grownBy w' v.ownBlock→(v'.ownBlock=v.ownBlock∨v'.ownBlock=some w.heap.size)→K (a.put o.dst v') w'):o.wp P a w K Q:=by
 obtain⟨v',w',hrun,h2,h3,h4⟩:=zge (P:=P) w base t o.type e i z size bytes ht hi hz hsize hby hzs hsz v n xs hown B A m c news hr h1 h63 hbytes hbase
 unfold Oper.wp execOp
 simp only[ho,resolve,invoke,builtin,Sem.run_bind,Sem.run_pure,Result.andThen_ok,List.map_toArray,List.map_cons,List.map_nil,hs,hx,hrun]
 exact h v' w' h2 h3 h4
theorem zcO {ops:Array Oper} {rest:List Oper} {o:Oper} {a:Act} {Q:Exit→Act→World→Prop} (hgd:o.guard=none) (s x:Operand) (t:TypeId)
  (ho:o.op= .call {callee:=.builtin .append,args:=#[s,x],argTypes:=#[t,t]})
  (base:Nat) (e:TypeId) (i:TypeInfo) (z:Value) (size bytes:Nat) (ht:P.underlying t=some (.slice e)) (hi:P.info? e=some i) (hz:i.zero=some z)
  (hsize:i.size=size) (hby:i.bytes=bytes) (hzs:z.cells.size=size) (hsz:0<size)
  (v:Value) (n:Nat) (xs:List Value) (hs:a.eval s=v) (hown:w.ownsRow base e size v n xs)
  (B:Nat) (A:Option Addr) (m c:Nat) (news:List Value) (hx:a.eval x= .slice A m c) (hr:Reads w B size A m news) (h1: ∀u∈news,u.oneCell'=true)
  (h63:n+m≤maxLen) (hbytes:(n+m)*bytes≤140737488355328) (hbase:base≤w.heap.size)
  (h: ∀v' w',w'.ownsRow base e size v' (n+m) (xs++news)→w.grownBy w' v.ownBlock→(v'.ownBlock=v.ownBlock∨v'.ownBlock=some w.heap.size)→wpList P ops Q rest (a.put o.dst v') w'):wpList P ops Q (o::rest) a w:=
 wpList_plain hgd fun _ hK=>zbk w s x t ho base e i z size bytes ht hi hz hsize hby hzs hsz v n xs hs hown B A m c news hx hr h1 h63 hbytes hbase fun v' w' h2 h3 h4=>hK _ _ (h v' w' h2 h3 h4)
end
def Inf (P:Program) (e:TypeId) (z:Value) (size bytes:Nat):Prop:=∃i,P.info? e=some i∧i.zero=some z∧i.size=size∧i.bytes=bytes
theorem Inf.of {P:Program} {e:TypeId} {z:Value} {size bytes:Nat} (h:(P.info? e).map (fun i=>(i.zero,i.size,i.bytes))=some (some z,size,bytes)):Inf P e z size bytes:=by
 cases hq:P.info? e with
 |none=>simp[hq]at h
 |some i=>simp[hq]at h;exact⟨i,hq,h.1,h.2.1,h.2.2⟩
theorem Inf.size_ {P:Program} {e:TypeId} {z:Value} {size bytes:Nat} (h:Inf P e z size bytes):(P.info? e).map (·.size)=some size:=by
 obtain⟨i,hi,_,hs,_⟩:=h;simp[hi,hs]
section
variable {P:Program} {w:World}
theorem zcD {ops:Array Oper} {rest:List Oper} {o:Oper} {a:Act} {Q:Exit→Act→World→Prop} (hgd:o.guard=none) (s x:Operand) (t:TypeId)
  (ho:o.op= .call {callee:=.builtin .append,args:=#[s,x],argTypes:=#[t,t]})
  {base:Nat} {e:TypeId} {z:Value} {size bytes:Nat} (ht:P.underlying t=some (.slice e)) (hI:Inf P e z size bytes) (hzs:z.cells.size=size) (hsz:0<size)
  {v:Value} {n:Nat} {xs:List Value} (hs:a.eval s=v) (hown:w.ownsRow base e size v n xs)
  {B:Nat} {A:Option Addr} {m c:Nat} {news:List Value} (hx:a.eval x= .slice A m c) (hr:Reads w B size A m news) (h1: ∀u∈news,u.oneCell'=true)
  (h63:n+m≤maxLen) (hbytes:(n+m)*bytes≤140737488355328) (hbase:base≤w.heap.size)
  (h: ∀v' w',w'.ownsRow base e size v' (n+m) (xs++news)→Below base w w'→w.grownBy w' v.ownBlock→(v'.ownBlock=v.ownBlock∨v'.ownBlock=some w.heap.size)→wpList P ops Q rest (a.put o.dst v') w'):wpList P ops Q (o::rest) a w:=by
 obtain⟨i,hi,hz,hsize,hby⟩:=hI
 exact zcO w hgd s x t ho base e i z size bytes ht hi hz hsize hby hzs hsz v n xs hs hown B A m c news hx hr h1 h63 hbytes hbase fun v' w' h2 h3 h4=>h v' w' h2 ((Below.refl _ _).grown h3 hbase fun k hk=>(hown.lt k hk).1) h3 h4
end
def Agg (P:Program) (ty:TypeId) (k:Nat):Prop:=
 ∃d,P.underlying ty=some d∧aggD d=true∧(P.info? ty).map (·.size)=some k
section
variable {P:Program} {w:World} {ops:Array Oper} {rest:List Oper} {a:Act} {Q:Exit→Act→World→Prop} {dst:Option Tmp} {type:TypeId} {pos:String} {after:Array Edge}
theorem znl {ty:TypeId} {x:Operand} {g off k:Nat} {t:TypeId} {cs:Array Value} (hA:Agg P ty k) (hg:Blk w g t cs)
  (hx:a.eval x= .pointer (some ⟨g,off,none⟩)) (hk:off+k≤cs.size)
  (h:wpList P ops Q rest (a.put dst (.agg (cs.extract off (off+k)))) w):wpList P ops Q (⟨dst,.load ty x,type,pos,after,none⟩::rest) a w:=by
 obtain⟨d,hu,hd,hi⟩:=hA
 exact zgp rfl ty x rfl g off k hx t cs (0,0) d hg hu hd hi hk h
theorem qx {ty:TypeId} {x:Operand} {g off k:Nat} {t:TypeId} {cs:Array Value} (vs:List Value) (hA:Agg P ty k) (hg:Blk w g t cs)
  (hx:a.eval x= .pointer (some ⟨g,off,none⟩)) (hk:off+k≤cs.size) (hv:(cs.toList.drop off).take k=vs)
  (h:wpList P ops Q rest (a.put dst (.agg vs.toArray)) w):wpList P ops Q (⟨dst,.load ty x,type,pos,after,none⟩::rest) a w:=by
 refine znl hA hg hx hk ?_
 have e:cs.extract off (off+k)=vs.toArray:=by
  rw[←hv];apply Array.ext';simp
 rw[e];exact h
theorem zlM {ty:TypeId} {x y:Operand} {g off k:Nat} {t:TypeId} {cs vs:Array Value} (hA:Agg P ty k) (hg:Blk w g t cs)
  (hx:a.eval x= .pointer (some ⟨g,off,none⟩)) (hy:a.eval y= .agg vs) (hvs:vs.size=k) (hk:off+k≤cs.size) (h1: ∀v∈vs.toList,v.oneCell'=true)
  (h:wpList P ops Q rest (a.put dst undef) (w.setRow g (cs.toList.take off++vs.toList++cs.toList.drop (off+k)).toArray)):wpList P ops Q (⟨dst,.store ty x y,type,pos,after,none⟩::rest) a w:=by
 obtain⟨d,hu,hd,hi⟩:=hA
 exact zet rfl ty x y rfl g off k hx t cs vs hy hg hi hvs hk h1 h
theorem jZ {s x:Operand} {t:TypeId} {base:Nat} {e:TypeId} {z:Value} {size bytes:Nat} (ht:P.underlying t=some (.slice e)) (hI:Inf P e z size bytes)
  {v:Value} {n:Nat} {xs:List Value} (hown:w.ownsRow base e size v n xs)
  {B:Nat} {A:Option Addr} {m c:Nat} {news:List Value} (hr:Reads w B size A m news) (h1: ∀u∈news,u.oneCell'=true) (hbase:base≤w.heap.size)
  (hs:a.eval s=v) (hx:a.eval x= .slice A m c) (hzs:z.cells.size=size) (hsz:0<size) (h63:n+m≤maxLen) (hbytes:(n+m)*bytes≤140737488355328)
  (h: ∀v' w',w'.ownsRow base e size v' (n+m) (xs++news)→Below base w w'→w.grownBy w' v.ownBlock→(v'.ownBlock=v.ownBlock∨v'.ownBlock=some w.heap.size)→wpList P ops Q rest (a.put dst v') w'):
  wpList P ops Q (⟨dst,.call {callee:=.builtin .append,args:=#[s,x],argTypes:=#[t,t]},type,pos,after,none⟩::rest) a w:=
 zcD rfl s x t rfl ht hI hzs hsz hs hown hx hr h1 h63 hbytes hbase h
end
section
variable {P:Program} {w:World}
theorem zdp {ty:TypeId} {k:Nat} (hA:Agg P ty k) (ad:Addr) (vs:List Value) (hl:vs.length=k) (h: ∀j v,vs[j]? =some v→w.cell? (ad.add j)=some v):
  (loadVar ty ad).run P w= .ok (.agg vs.toArray) w:=by
 obtain⟨d,hu,hd,hi⟩:=hA
 have hld:=run_loadCells_list (P:=P) w ad vs h
 rw[hl]at hld
 cases hq:P.info? ty with
 |none=>simp[hq]at hi
 |some i=>
  have hs:i.size=k:=by simpa[hq]using hi
  simp only[loadVar,Sem.run_bind,zkt hu hd,sizeOf,typeInfo]
  simp[hq,hs,hld]
variable {ops:Array Oper} {rest:List Oper} {a:Act} {Q:Exit→Act→World→Prop} {q:Act→Prop} {dst:Option Tmp} {type:TypeId} {pos:String} {after:Array Edge}
end
section
variable {P:Program} {w:World} {ops:Array Oper} {rest:List Oper} {a:Act} {Q:Exit→Act→World→Prop} {dst:Option Tmp} {type:TypeId} {pos:String} {after:Array Edge}
theorem qk {ty:TypeId} {x y:Operand} {g off k:Nat} {t:TypeId} {cs vs:Array Value} (ds:Array Value) (hA:Agg P ty k) (hg:Blk w g t cs)
    (hx:a.eval x= .pointer (some ⟨g,off,none⟩)) (hy:a.eval y= .agg vs) (hvs:vs.size=k) (hk:off+k≤cs.size) (h1: ∀v∈vs.toList,v.oneCell'=true)
    (hds:cs.toList.take off++vs.toList++cs.toList.drop (off+k)=ds.toList)
    (h: ∀w2,Blk w2 g t ds→yi (· =g) w w2→wpList P ops Q rest (a.put dst undef) w2):wpList P ops Q (⟨dst,.store ty x y,type,pos,after,none⟩::rest) a w:=by
  refine zlM hA hg hx hy hvs hk h1 (h _ ?_ ?_)
  · rw[hds];exact hg.setRow_ _
  · exact(yi.refl _ _).setRow (fun _=>by rfl) _
end
section
variable {P:Program} {w:World} {ops:Array Oper} {rest:List Oper} {a:Act} {Q:Exit→Act→World→Prop} {dst:Option Tmp} {type:TypeId} {pos:String} {after:Array Edge}
end
end
section
def yu (cur:List Value) (o:Nat) (news:List Value):List Value:=cur.take o++news++cur.drop (o+news.length)
theorem qq {cur:List Value} {o:Nat} {news:List Value} (h:o+news.length≤cur.length):(yu cur o news).length=cur.length:=by
 simp[yu];omega
theorem yN {P:Program} {w:World} {dT sT ty elem:TypeId} {k:Nat} (hu:P.underlying dT=some (.slice elem)) (hI:(P.info? elem).map (·.size)=some k) {g o dLen dCap:Nat} {sA:Option Addr} {sLen sCap:Nat} {t:TypeId}
  {cur news:List Value} {m:Nat} (hg:Blk w g t cur.toArray) (hm:m=min sLen dLen) (hl:news.length=m*k) (hsrc:0<m→∃ad,sA=some ad∧∀j v,news[j]? =some v→w.cell? (ad.add j)=some v)
  (hfit:o+m*k≤cur.length) (h1: ∀v∈news,v.oneCell'=true):
  (Builtin.copy_ #[dT,sT] ty #[.slice (some ⟨g,o,none⟩) dLen dCap,.slice sA sLen sCap]).run P w= .ok (goInt (m:Nat)) (w.setRow g (yu cur o news).toArray):=by
 have hst:=run_storeCells_at P g o t news 0 cur.toArray w hg (by simp<;>omega) h1
 have hf:(Builtin.firstCells k m (.slice sA sLen sCap)).run P w= .ok news.toArray w:=by
  rcases Nat.eq_zero_or_pos m with h0|h0
  ·subst h0
   have hn:news=[]:=List.eq_nil_of_length_eq_zero (by simpa using hl)
   subst hn
   cases sA with
   |none=>exact run_firstCells_none w k 0 _ _
   |some ad=>exact run_firstCells_some w k 0 ad _ _ [] (by simp) (fun j v h=>by simp at h)
  ·obtain⟨ad,rfl,hc⟩:=hsrc h0
   exact run_firstCells_some w k m ad _ _ news hl hc
 have hmm:Nat.min sLen dLen=m:=by rw[hm]
 cases hq:P.info? elem with
 |none=>simp[hq]at hI
 |some i=>
  have hs:i.size=k:=by simpa[hq]using hI
  simp[Builtin.copy_,run_underlying hu,Builtin.lenOf,sizeOf,typeInfo,hq,hs,hmm,hf,hst,yu]
theorem QT {w:World} {g:Nat} {t:TypeId} {cs:Array Value} (h:Blk w g t cs):w.shape? g=some (t,cs.size):=by
 unfold Blk at h
 simp[World.shape?,h]
section
variable {P:Program} {w:World} {ops:Array Oper} {rest:List Oper} {a:Act} {Q:Exit→Act→World→Prop} {dst:Option Tmp} {type:TypeId} {pos:String} {after:Array Edge}
theorem YR {d s:Operand} {dT sT:TypeId} {v u:Value} {v':Value} {w':World} (hr: ∀ty,(Builtin.append_ #[dT,sT] ty #[v,u]).run P w= .ok v' w') (hd:a.eval d=v) (hs:a.eval s=u)
  (h:wpList P ops Q rest (a.put dst v') w'):wpList P ops Q (⟨dst,.call {callee:=.builtin .append,args:=#[d,s],argTypes:=#[dT,sT]},type,pos,after,none⟩::rest) a w:=
 wpList_plain rfl fun K hK=>by
  unfold Oper.wp execOp
  simp only[resolve,invoke,builtin,Sem.run_bind,Sem.run_pure,Result.andThen_ok,List.map_toArray,List.map_cons,List.map_nil,hd,hs,hr]
  exact hK _ _ h
theorem jt {o:Oper} {K:Act→World→Prop} {E:Prop} {d s:Operand} {dT sT:TypeId} (hg:o.guard=none) (ho:o.op= .call {callee:=.builtin .copy,args:=#[d,s],argTypes:=#[dT,sT]})
  {v u:Value} {v':Value} {w':World} (hr: ∀ty,(Builtin.copy_ #[dT,sT] ty #[v,u]).run P w= .ok v' w') (hd:a.eval d=v) (hs:a.eval s=u)
  (h:K (a.put o.dst v') w'):if Region.wanted o (yielded ops a.tmps)=true then Oper.wp P o a w K Q else E:=by
 have hw:Region.wanted o (yielded ops a.tmps)=true:=by simp[Region.wanted,hg]
 rw[if_pos hw]
 unfold Oper.wp
 simp[execOp,ho,resolve,invoke,builtin,hd,hs,hr,Result.andThen]
 exact h
end
section
variable {w w':World} {base:Nat} {e:TypeId} {size:Nat} {n:Nat} {xs:List Value}
theorem Qp {v:Value} (h:w.ownsRow base e size v n xs) (hk: ∀g,v.ownBlock=some g→w'.heap[g]? =w.heap[g]?):w'.ownsRow base e size v n xs:=by
 refine⟨h.1,?_⟩
 rcases h.2 with h2|⟨g,cap,cur,rfl,hb,hg,rest⟩
 ·exact .inl h2
 ·exact .inr ⟨g,cap,cur,rfl,hb,(hk g rfl).trans hg,rest⟩
theorem zrj {v:Value} (h:w.ownsRow base e size v n xs) {B:Nat} (hb:Below B w w') (hB: ∀g,v.ownBlock=some g→g<B):w'.ownsRow base e size v n xs:=Qp h fun g hg=>hb.block g (hB g hg)
end
theorem yf (z:Array Value) (n:Nat):(Builtin.zeroCells z n).size=n*z.size:=by simp[Builtin.zeroCells]
theorem zgb (P K R ys:List Value) (h:K.length=ys.length):yu (P++(K++R)) P.length ys=P++(ys++R):=by
 simp only[yu,List.take_left,List.append_assoc]
 rw[←h,←List.length_append,←List.append_assoc P K R,List.drop_left]
theorem zsw (cur:List Value) (a k:Nat) (h:a+k≤cur.length): ∃K:List Value,K.length=k∧cur.take (a+k)=cur.take a++K:=
 ⟨(cur.drop a).take k,by simp;omega,List.take_add⟩
theorem zbL {cur xs ys:List Value} {n i c k:Nat} (hi:i<n) (hc:n+1≤c) (hcur:cur.length=c*k) (hx:cur.take (n*k)=xs) (hy:ys.length=k):
  (yu (yu cur ((i+1)*k) (xs.drop (i*k))) (i*k) ys).take ((n+1)*k)=xs.take (i*k)++ys++xs.drop (i*k):=by
 have h1:i*k+k≤n*k:=by rw[←Nat.succ_mul];exact Nat.mul_le_mul_right _ hi
 have h2:n*k+k≤c*k:=by rw[←Nat.succ_mul];exact Nat.mul_le_mul_right _ hc
 have h3:(i+1)*k=i*k+k:=Nat.succ_mul _ _
 have h4:(n+1)*k=n*k+k:=Nat.succ_mul _ _
 have hxl:xs.length=n*k:=by rw[←hx,List.length_take];omega
 have hxt:xs.take (i*k)=cur.take (i*k):=by rw[←hx,List.take_take,Nat.min_eq_left (by omega)]
 rw[h3,h4,hxt]
 generalize i*k=a at*
 generalize n*k=b at*
 obtain⟨K,hK,e⟩:=zsw cur a k (by omega)
 have e2:yu cur (a+k) (xs.drop a)=cur.take a++(K++(xs.drop a++cur.drop (a+k+(xs.drop a).length))):=by
  simp only[yu,e,List.append_assoc]
 have hal:(cur.take a).length=a:=by rw[List.length_take];omega
 have e3:=zgb (cur.take a) K (xs.drop a++cur.drop (a+k+(xs.drop a).length)) ys (by omega)
 rw[hal]at e3
 rw[e2,e3,←List.append_assoc,←List.append_assoc]
 have hl:(cur.take a++ys++xs.drop a).length=b+k:=by simp only[List.length_append,hal,List.length_drop];omega
 rw[←hl,List.take_left]
theorem zdF {xs ys Z:List Value} {n i k:Nat} (hi:i<n) (hx:xs.length=n*k) (hy:ys.length=k) (hZ:(n+1 - i)*k≤Z.length):
  (yu (yu (xs.take (i*k)++Z) (i*k) ys) ((i+1)*k) (xs.drop (i*k))).take ((n+1)*k)=xs.take (i*k)++ys++xs.drop (i*k):=by
 have h1:i*k+k≤n*k:=by rw[←Nat.succ_mul];exact Nat.mul_le_mul_right _ hi
 have h3:(i+1)*k=i*k+k:=Nat.succ_mul _ _
 have h4:(n+1)*k=n*k+k:=Nat.succ_mul _ _
 have h5:(n+1 - i)*k=n*k+k - i*k:=by rw[Nat.sub_mul,h4]
 rw[h5]at hZ
 rw[h3,h4]
 generalize i*k=a at*
 generalize n*k=b at*
 have hal:(xs.take a).length=a:=by rw[List.length_take];omega
 obtain⟨K,R,eZ,hK⟩: ∃K R:List Value,Z=K++R∧K.length=k:=⟨Z.take k,Z.drop k,(List.take_append_drop _ _).symm,by rw[List.length_take];omega⟩
 subst eZ
 rw[List.length_append]at hZ
 obtain⟨M,T,eR,hM⟩: ∃M T:List Value,R=M++T∧M.length=b - a:=⟨R.take (b - a),R.drop (b - a),(List.take_append_drop _ _).symm,by rw[List.length_take];omega⟩
 subst eR
 have e1:=zgb (xs.take a) K (M++T) ys (by omega)
 rw[hal]at e1
 rw[e1]
 have e2:=zgb (xs.take a++ys) M T (xs.drop a) (by rw[List.length_drop];omega)
 rw[List.length_append,hal,hy]at e2
 rw[←List.append_assoc,e2,←List.append_assoc]
 have hl:(xs.take a++ys++xs.drop a).length=b+k:=by simp only[List.length_append,hal,List.length_drop];omega
 rw[←hl,List.take_left]
end
end Go.Ed
