import Derived.Test.YtbcbnfiedgnfpaaGreatZ08
import Derived.Deep.Onto
import Derived.Lib.Overlaps
import Derived.Shelf.Abstract
import Derived.WalkKit
import Derived.WalkSpells
import Derived.ProofKit
import Derived.Handy
import Derived.Deep.RegionLaw
set_option linter.unusedSimpArgs false
set_option linter.unusedVariables false
set_option maxRecDepth 100000
set_option maxHeartbeats 2000000
section
namespace Go.Ed
open Go.RowKit
section
variable {P:Program} {w:World} {ops:Array Oper} {rest:List Oper} {a:Act} {Q:Exit→Act→World→Prop}
theorem yK {o:Oper} {K:Act→World→Prop} {E:Prop} {d s:Operand} {dT sT:TypeId} (hg:o.guard=none) (ho:o.op= .call {callee:=.builtin .append,args:=#[d,s],argTypes:=#[dT,sT]})
  {v u:Value} {v':Value} {w':World} (hr: ∀ty,(Builtin.append_ #[dT,sT] ty #[v,u]).run P w= .ok v' w') (hd:a.eval d=v) (hs:a.eval s=u)
  (h:K (a.put o.dst v') w'):if Region.wanted o (yielded ops a.tmps)=true then Oper.wp P o a w K Q else E:=by
 have hw:Region.wanted o (yielded ops a.tmps)=true:=by simp[Region.wanted,hg]
 rw[if_pos hw]
 unfold Oper.wp
 simp[execOp,ho,resolve,invoke,builtin,hd,hs,hr,Result.andThen]
 exact h
theorem YO (t e ty:TypeId) (z:Value) (ht:P.underlying t=some (.slice e)) (hv: ∀w,(zeroValue e).run P w= .ok z w) {k:Nat} (hz:z.cells.size=k) (hk:0<k) (hz1: ∀u∈z.cells.toList,u.oneCell'=true) {T:TypeId} (g o n c:Nat) {cur:List Value} (hg:Blk w g T cur.toArray) (hn:0<n)
  (hfit:o+n*k≤cur.length):(Builtin.clear_ #[t] ty #[.slice (some ⟨g,o,none⟩) n c]).run P w= .ok (.tuple #[]) (w.setRow g (yu cur o (Builtin.zeroCells z.cells n).toList).toArray):=by
 have hl:(Builtin.zeroCells z.cells n).toList.length=n*k:=by rw[Array.length_toList,yf,hz]
 have h1: ∀u∈(Builtin.zeroCells z.cells n).toList,u.oneCell'=true:=by
  intro u hu
  simp only[Builtin.zeroCells]at hu
  simp at hu
  obtain⟨j,hj,rfl⟩:=hu
  have:j % z.cells.size<z.cells.size:=Nat.mod_lt _ (by omega)
  refine hz1 _ ?_
  simp[this]
 have hst:=run_storeCells_at P g o T (Builtin.zeroCells z.cells n).toList 0 cur.toArray w hg (by rw[hl];simpa using hfit) h1
 simp only[Nat.add_zero]at hst
 obtain⟨m,rfl⟩: ∃m,n=m+1:=⟨n - 1,by omega⟩
 simp[Builtin.clear_,run_underlying ht,hv,hst,yu]
end
theorem zfB {cur xs Z:List Value} {n i c k:Nat} (hi:i<n) (hcur:cur.length=c*k) (hnc:n≤c) (hx:cur.take (n*k)=xs):
  (yu (yu cur (i*k) (xs.drop ((i+1)*k))) ((n - 1)*k) Z).take ((n - 1)*k)=xs.take (i*k)++xs.drop ((i+1)*k):=by
 have h1:i*k+k≤n*k:=by rw[←Nat.succ_mul];exact Nat.mul_le_mul_right _ hi
 have h2:n*k≤c*k:=Nat.mul_le_mul_right _ hnc
 have h3:(i+1)*k=i*k+k:=Nat.succ_mul _ _
 have h4:(n - 1)*k=n*k - k:=by rw[Nat.sub_mul,Nat.one_mul]
 have hxl:xs.length=n*k:=by rw[←hx,List.length_take];omega
 have hxt:xs.take (i*k)=cur.take (i*k):=by rw[←hx,List.take_take,Nat.min_eq_left (by omega)]
 rw[h3,h4,hxt]
 generalize i*k=a at*
 generalize n*k=b at*
 have hl:(cur.take a++xs.drop (a+k)).length=b - k:=by rw[List.length_append,List.length_take,List.length_drop,hxl];omega
 have hL:(yu cur a (xs.drop (a+k))).take (b - k)=cur.take a++xs.drop (a+k):=by
  unfold yu
  rw[←hl,List.append_assoc,←List.append_assoc,List.take_left]
 have hlo:b - k≤(yu cur a (xs.drop (a+k))).length:=by rw[qq (by rw[List.length_drop,hxl];omega)];omega
 rw[yu,List.append_assoc,List.take_append_of_le_length (by rw[List.length_take];omega),List.take_take,Nat.min_self,hL]
end Go.Ed
namespace Go.Dl
open Go.Ed Go.RowKit
section
variable {P:Program}
theorem QV {v v':Value} {n:Nat} (h:v'.ownBlock=v.ownBlock∨v'.ownBlock=some n): ∀b,v'.ownBlock=some b→some b=v.ownBlock∨n≤b:=fun b hb=>h.elim (fun h=>.inl (by rw[←h,hb])) fun h=>.inr (by rw[h]at hb;injection hb with hb;omega)
theorem zjQ {w w':World} {S:Nat→Prop} {base:Nat} {e:TypeId} {k n:Nat} {v:Value} {us:List Value} (h:w.ownsRow base e k v n us) (hb:yi S w w') (hg: ∀b,v.ownBlock=some b→¬S b):w'.ownsRow base e k v n us:=by
 refine⟨h.1,h.2.imp id fun⟨g,cap,cur,h1,h2,h3,h4⟩=>⟨g,cap,cur,h1,h2,?_,h4⟩⟩
 have h5:Blk w g e cur:=h3
 exact h5.chg hb (hg g (by rw[h1];rfl))
theorem zhB {rows:List (List F)} {k i:Nat} (hk: ∀r∈rows,r.length=k):rows.flatten.take (i*k)=(rows.take i).flatten:=by
 induction rows generalizing i with
 |nil=>simp
 | cons r rows ih=>
  cases i with
  |zero=>simp
  |succ i=>
   have h0:=hk r (by simp)
   simp only[List.flatten_cons,List.take_succ_cons]
   rw[show(i+1)*k=r.length+i*k by rw[Nat.add_mul];omega,List.take_length_add_append,ih fun q hq=>hk q (by simp[hq])]
theorem zg8 {rows:List (List F)} {k i:Nat} (hk: ∀r∈rows,r.length=k):rows.flatten.drop (i*k)=(rows.drop i).flatten:=by
 induction rows generalizing i with
 |nil=>simp
 | cons r rows ih=>
  cases i with
  |zero=>simp
  |succ i=>
   have h0:=hk r (by simp)
   simp only[List.flatten_cons,List.drop_succ_cons]
   rw[show(i+1)*k=r.length+i*k by rw[Nat.add_mul];omega,List.drop_length_add_append,ih fun q hq=>hk q (by simp[hq])]
theorem RepFs.app {w:World} {I:Nat→Prop} {xs ys:List F} {us vs:List Value} (h1:RepFs w I xs us) (h2:RepFs w I ys vs):RepFs w I (xs++ys) (us++vs):=by
 refine⟨by simp[h1.1,h2.1],fun j x u hx hu=>?_⟩
 rcases Nat.lt_or_ge j xs.length with h|h
 ·rw[List.getElem?_append_left h]at hx
  rw[List.getElem?_append_left (by rw[←h1.1];exact h)]at hu
  exact h1.2 j x u hx hu
 ·rw[List.getElem?_append_right h]at hx
  rw[List.getElem?_append_right (by rw[←h1.1];exact h),←h1.1]at hu
  exact h2.2 _ x u hx hu
theorem RepFs.take {w:World} {I:Nat→Prop} {xs:List F} {us:List Value} (h:RepFs w I xs us) (n:Nat):RepFs w I (xs.take n) (us.take n):=by
 refine⟨by simp[h.1],fun j x u hx hu=>?_⟩
 rw[List.getElem?_take]at hx hu
 split at hx
 ·rename_i hj;rw[if_pos hj]at hu;exact h.2 j x u hx hu
 ·cases hx
theorem RepFs.drop {w:World} {I:Nat→Prop} {xs:List F} {us:List Value} (h:RepFs w I xs us) (n:Nat):RepFs w I (xs.drop n) (us.drop n):=by
 refine⟨by simp[h.1],fun j x u hx hu=>?_⟩
 rw[List.getElem?_drop]at hx hu
 exact h.2 _ x u hx hu
theorem RepFs.mono {w w':World} {I I':Nat→Prop} {xs:List F} {us:List Value} (h:RepFs w I xs us) (hb: ∀b,I b→w'.heap[b]? =w.heap[b]?) (hI: ∀b,I b→I' b):RepFs w' I' xs us:=
 ⟨h.1,fun j x u hx hu=>(h.2 j x u hx hu).mono hb hI⟩
theorem RepFs.one {w:World} {I:Nat→Prop} {xs:List F} {us:List Value} (h:RepFs w I xs us): ∀u∈us,u.oneCell'=true:=fun u hu=>by
 obtain⟨j,hj,rfl⟩:=List.getElem_of_mem hu
 exact(h.2 j (xs[j]'(by rw[h.1];exact hj)) _ (List.getElem?_eq_getElem (by rw[h.1];exact hj)) (List.getElem?_eq_getElem hj)).one
theorem zhm {w w':World} {E:qN} {al:RL} (hm:Mem w E (fun t=>YX t []) (fun a=>lkR a al)) {A:Option Addr} {n c:Nat} {v:Value} {e:TypeId} {k:Nat} {rows rows':List (List F)} {us':List Value} (hL:E.L 0=some (.slice A n c)) (hrest: ∀a,a≠0→lkR a ((0,e,k,rows')::al.tail)=lkR a al) (h0:lkR 0 ((0,e,k,rows')::al.tail)=some (e,k,rows')) (h00:lkR 0 al=some (e,k,rows))
  (hown:w'.ownsRow 0 e k v rows'.length us') (hrep:RepFs w E.I rows'.flatten us') (hk: ∀r∈rows',r.length=k) (hc:yi (fun i=>some i=(Value.slice A n c).ownBlock) w w') (hb: ∀b,v.ownBlock=some b→some b=(Value.slice A n c).ownBlock∨w.heap.size≤b):
  ∃u E',Ending.returned v= .returned u∧Mem w' E' (fun t=>YX t []) (fun a=>lkR a ((0,e,k,rows')::al.tail))∧qr w' E' (.c (.o 0)) u∧yi (foot E) w w'∧
  (∀t b,E.B t=some b→E'.B t=some b)∧(∀b,E.I b→E'.I b)∧(∀b,E'.I b→E.I b∨w.heap.size≤b∨foot E b)∧∀b,foot E' b→w.heap.size≤b∨foot E b:=by
 have hv1:v.oneCell'=true:=by
  rcases hown.2 with⟨h,_⟩|⟨g,cap,cur,h,_⟩<;>rw[h]<;>rfl
 have hsz:=hc.size
 have hfar: ∀b,E.I b→w'.heap[b]? =w.heap[b]? :=fun b hi=>hc.block b (hm.il b hi) fun he=>(hm.al 0 _ b hL he.symm).2.1 hi
 have hlt: ∀b,v.ownBlock=some b→b<w'.heap.size:=fun b h=>(hown.lt b h).2
 let E':qN:=⟨E.B,fun a=>if a=0 then some v else E.L a,E.I⟩
 have hL0':E'.L 0=some v:=by
  show(if(0:Nat)=0 then some v else E.L 0)=some v
  rw[if_pos rfl]
 have hLi: ∀a x,E'.L a=some x→(a=0∧x=v)∨(a≠0∧E.L a=some x):=fun a x h=>by
  have h:(if a=0 then some v else E.L a)=some x:=h
  by_cases ha:a=0
  ·rw[if_pos ha]at h;cases h;exact .inl ⟨ha,rfl⟩
  ·rw[if_neg ha]at h;exact .inr ⟨ha,h⟩
 have hcase: ∀b,v.ownBlock=some b→(∃u0,E.L 0=some u0∧u0.ownBlock=some b)∨w.heap.size≤b:=fun b h=>(hb b h).imp (fun h=>⟨_,hL,h.symm⟩) id
 refine⟨v,E',rfl,⟨fun t e' cs h=>?_,hm.inj,fun t b h=>?_,fun a e1 k1 rows1 h=>?_,fun a x b h h1=>?_,fun a a' x x' b h1 h2 h3 h4=>?_,hm.bn,fun a h=>?_,fun b h=>by have:=hm.il b h;omega⟩,.c (.o hL0' hv1),hc.mono fun i hi=>.inr ⟨0,_,hL,hi.symm⟩,fun _ _ h=>h,fun _ h=>h,fun _ h=>.inl h,fun b h=>?_⟩
 ·cases h
 ·have:=hm.bl t b h;exact⟨by omega,this.2⟩
 ·by_cases ha:a=0
  ·subst ha
   rw[h0]at h;cases h
   exact⟨v,us',hL0',hown,hrep.mono hfar fun _ h=>h,hk⟩
  ·rw[hrest a ha]at h
   obtain⟨x,us,q1,q2,q3,q4⟩:=hm.arr _ _ _ _ h
   refine⟨x,us,(if_neg ha).trans q1,zjQ q2 hc fun b hb he=>ha (hm.ai a 0 _ _ b q1 hL hb he.symm),q3.mono hfar fun _ h=>h,q4⟩
 ·rcases hLi a x h with⟨rfl,rfl⟩|⟨ha,h⟩
  ·rcases hcase b h1 with⟨u0,q1,q2⟩|q
   ·have:=hm.al 0 u0 b q1 q2
    exact⟨hlt b h1,this.2⟩
   ·refine⟨hlt b h1,fun hi=>by have:=hm.il b hi;omega,fun t ht=>by have:=(hm.bl t b ht).1;omega⟩
  ·have:=hm.al a x b h h1
   exact⟨by omega,this.2⟩
 ·rcases hLi a x h1 with⟨e1,e2⟩|⟨n1,q1⟩<;>rcases hLi a' x' h2 with⟨e3,e4⟩|⟨n2,q2⟩
  ·exact e1.trans e3.symm
  ·rcases hcase b (e2▸h3)with⟨u0,r1,r2⟩|r
   ·exact e1.trans (hm.ai 0 a' _ _ b r1 q2 r2 h4)
   ·have:=(hm.al a' x' b q2 h4).1;omega
  ·rcases hcase b (e4▸h4)with⟨u0,r1,r2⟩|r
   ·exact(hm.ai a 0 _ _ b q1 r1 h3 r2).trans e3.symm
   ·have:=(hm.al a x b q1 h3).1;omega
  ·exact hm.ai a a' x x' b q1 q2 h3 h4
 ·by_cases ha:a=0
  ·subst ha;rw[h0]at h;cases h
  ·rw[hrest a ha]at h;exact(if_neg ha).trans (hm.an a h)
 ·rcases h with⟨t,h⟩|⟨a,x,h,h1⟩
  ·exact .inr (.inl ⟨t,h⟩)
  ·rcases hLi a x h with⟨rfl,rfl⟩|⟨ha,h⟩
   ·exact(hcase b h1).elim (fun⟨u0,q1,q2⟩=>.inr (.inr ⟨0,u0,q1,q2⟩)) .inl
   ·exact .inr (.inr ⟨a,x,h,h1⟩)
theorem zdM {f:FuncId} {e:TypeId} {k:Nat} (hb:Yz P f)
    (h: ∀(w:World) (A:Option Addr) (n c i vb:Nat) (xs ys:List Value),w.ownsRow 0 e k (.slice A n c) n xs→i≤n→n≤1000000000000→∀(lc:Nat) (lit:List Value),Blk w vb e lit.toArray→(∀(j:Nat) u,ys[j]? =some u→lit[j]? =some u)→ys.length=k→(∀ad,A=some ad→vb≠ad.block)→(∀u∈ys,u.oneCell'=true)→(∀u∈xs,u.oneCell'=true)→
      Calls P f #[.slice A n c,.int .i64 i,.slice (some ⟨vb,0,none⟩) 1 lc] w fun e' w'=>∃v,e'= .returned v∧w'.ownsRow 0 e k v (n+1) (xs.take (i*k)++ys++xs.drop (i*k))∧yi (fun i=>some i=(Value.slice A n c).ownBlock) w w'∧(∀b,v.ownBlock=some b→some b=(Value.slice A n c).ownBlock∨w.heap.size≤b))
    (rows:List (List F)) (r:List F) (i:Nat) (hi:i≤rows.length) (hn:rows.length≤1000000000000):
    zA P f [.c (.o 0),.c (.f (.s (.int .i64 i))),.c (.o 1)] [] [(0,e,k,rows),(1,e,k,[r])] (.c (.o 0)) [] [(0,e,k,rows.take i++[r]++rows.drop i),(1,e,k,[r])]:=by
  refine⟨hb,fun w us E hm hl hv=>?_⟩
  obtain⟨v0,xs,hL0,ho0,hr0,hk0⟩:=hm.arr 0 e k rows rfl
  obtain⟨v1,ys,hL1,ho1,hr1,hk1⟩:=hm.arr 1 e k [r] rfl
  obtain⟨us⟩:=us
  match us,hl with
  | [u0, u1, u2], hl=>
    have e0:=hv 0 _ u0 rfl rfl
    have e1:=hv 1 _ u1 rfl rfl
    have e2:=hv 2 _ u2 rfl rfl
    cases e0 with
    | c e0 => cases e0 with
      | o e0 _=>
        rw[hL0]at e0;cases e0
        cases e1 with
        | c e1 => cases e1 with
          | f e1 => cases e1 with
            | s e1=>
              cases e2 with
              | c e2 => cases e2 with
                | o e2 _=>
                  rw[hL1]at e2;cases e2
                  obtain⟨A,c,rfl,hnc,hA⟩:=Z8 ho0
                  rcases ho1.2 with⟨_,h1⟩|⟨g,lc,cur,rfl,_,hg,hcap,_,hsz,htk⟩
                  · simp at h1
                  have hg':Blk w g e cur.toList.toArray:=by simpa[Blk]using hg
                  have hyl:ys.length=k:=by simpa using ho1.1
                  refine Calls.mono (h w A rows.length c i g xs ys ho0 hi hn lc cur.toList hg' (fun j u hj=>?_) hyl (fun ad hA he=>?_) hr1.one hr0.one) ?_
                  · rw[←htk,List.getElem?_take]at hj
                    split at hj
                    · exact hj
                    · cases hj
                  · subst hA
                    rcases ho0.2 with⟨hx,_⟩|⟨g0,cap0,cur0,hx,_⟩
                    · cases hx
                    · injection hx with hx
                      injection hx with hx
                      subst hx
                      have:=hm.ai 0 1 _ _ g hL0 hL1 (by subst he;rfl) rfl
                      cases this
                  · rintro _ w' ⟨v,rfl,q1,q2,q3⟩
                    have hk2: ∀q∈rows.take i++[r]++rows.drop i,q.length=k:=fun q hq=>by
                      rcases List.mem_append.1 hq with hq|hq
                      · rcases List.mem_append.1 hq with hq|hq
                        · exact hk0 q (List.mem_of_mem_take hq)
                        · exact hk1 q hq
                      · exact hk0 q (List.mem_of_mem_drop hq)
                    have hl2:(rows.take i++[r]++rows.drop i).length=rows.length+1:=by simp;omega
                    refine zhm (al:=[(0,e,k,rows),(1,e,k,[r])]) hm (rows:=rows) (rows':=rows.take i++[r]++rows.drop i) hL0 (fun a ha=>?_) rfl rfl (by rw[hl2];exact q1) ?_ hk2 q2 q3
                    · simp[lkR,ha]
                    · rw[List.flatten_append,List.flatten_append,←zhB hk0,←zg8 hk0]
                      exact RepFs.app (RepFs.app (hr0.take _) hr1) (hr0.drop _)
  |[],hl=>simp at hl
  |[_],hl=>simp at hl
  |[_,_],hl=>simp at hl
  | _::_::_::_::_,hl=>simp at hl
theorem zdb {f:FuncId} {e:TypeId} {k:Nat} (hb:Yz P f)
    (h: ∀(w:World) (A:Option Addr) (n c i:Nat) (xs:List Value),w.ownsRow 0 e k (.slice A n c) n xs→i<n→n≤1000000000000→(∀u∈xs,u.oneCell'=true)→
      Calls P f #[.slice A n c,.int .i64 i,.int .i64 ((i:Int)+1)] w fun e' w'=>∃v,e'= .returned v∧w'.ownsRow 0 e k v (n - 1) (xs.take (i*k)++xs.drop ((i+1)*k))∧yi (fun i=>some i=(Value.slice A n c).ownBlock) w w'∧(∀b,v.ownBlock=some b→some b=(Value.slice A n c).ownBlock∨w.heap.size≤b))
    (rows:List (List F)) (i:Nat) (j:Int) (hj:j=(i:Int)+1) (hi:i<rows.length) (hn:rows.length≤1000000000000):
    zA P f [.c (.o 0),.c (.f (.s (.int .i64 i))),.c (.f (.s (.int .i64 j)))] [] [(0,e,k,rows)] (.c (.o 0)) [] [(0,e,k,rows.take i++rows.drop (i+1))]:=by
  subst hj
  refine⟨hb,fun w us E hm hl hv=>?_⟩
  obtain⟨v0,xs,hL0,ho0,hr0,hk0⟩:=hm.arr 0 e k rows rfl
  obtain⟨us⟩:=us
  match us,hl with
  | [u0, u1, u2], hl=>
    have e0:=hv 0 _ u0 rfl rfl
    have e1:=hv 1 _ u1 rfl rfl
    have e2:=hv 2 _ u2 rfl rfl
    cases e0 with
    | c e0 => cases e0 with
      | o e0 _=>
        rw[hL0]at e0;cases e0
        cases e1 with
        | c e1 => cases e1 with
          | f e1 => cases e1 with
            | s e1=>
              cases e2 with
              | c e2=>cases e2 with
                | f e2=>cases e2 with
                  | s e2=>
                    obtain⟨A,c,rfl,hnc,hA⟩:=Z8 ho0
                    refine Calls.mono (h w A rows.length c i xs ho0 hi hn hr0.one) ?_
                    rintro _ w' ⟨v,rfl,q1,q2,q3⟩
                    have hk2: ∀q∈rows.take i++rows.drop (i+1),q.length=k:=fun q hq=>by
                      rcases List.mem_append.1 hq with hq|hq
                      · exact hk0 q (List.mem_of_mem_take hq)
                      · exact hk0 q (List.mem_of_mem_drop hq)
                    have hl2:(rows.take i++rows.drop (i+1)).length=rows.length - 1:=by simp;omega
                    refine zhm (al:=[(0,e,k,rows)]) hm (rows:=rows) (rows':=rows.take i++rows.drop (i+1)) hL0 (fun a ha=>?_) rfl rfl (by rw[hl2];exact q1) ?_ hk2 q2 q3
                    · simp[lkR,ha]
                    · rw[List.flatten_append,←zhB hk0,←zg8 hk0]
                      exact RepFs.app (hr0.take _) (hr0.drop _)
  |[],hl=>simp at hl
  |[_],hl=>simp at hl
  |[_,_],hl=>simp at hl
  | _::_::_::_::_,hl=>simp at hl
end
end Go.Dl
end
namespace Go.Proofs.YtbcbnfiedgnfpaaGreat
open Go.RowKit Go.Shelf Go.Ed Go.Dl
theorem znt:Inf Tryz.prog 94 (.agg #[.int .i64 0,.int .i64 0,.int .i64 0,.int .i64 0]) 4 32:=Inf.of (by kernel_rfl)
theorem zab:Tryz.prog.underlying 23=some (.slice 94):=by kernel_rfl
set_option maxRecDepth 100000 in
set_option maxHeartbeats 4000000 in
theorem zkH (w:World) (base:Nat) (A:Option Addr) (n c vb:Nat) (xs ys:List Value) (hown:w.ownsRow base 94 4 (.slice A n c) n xs) (hbase:base≤w.heap.size) (hn:n≤1000000000000)
  (lc:Nat) (lit:List Value) (hv:Blk w vb 94 lit.toArray) (hlk: ∀(j:Nat) u,ys[j]? =some u→lit[j]? =some u) (hy:ys.length=4) (h1: ∀u∈ys,u.oneCell'=true):
  Calls Tryz.prog 268 #[.slice A n c,.int .i64 n,.slice (some ⟨vb,0,none⟩) 1 lc] w fun e w'=>
   ∃v,e= .returned v∧w'.ownsRow base 94 4 v (n+1) (xs++ys)∧yi (fun i=>some i=(Value.slice A n c).ownBlock) w w'∧(∀b,v.ownBlock=some b→some b=(Value.slice A n c).ownBlock∨w.heap.size≤b):=by
 have hr:Reads w w.heap.size 4 (some ⟨vb,0,none⟩) 1 ys:=Reads.of_blk hv (by omega) (fun j u h=>by simpa using hlk j u h)
 have hnc:n≤c:=by
  obtain⟨A',c',e,hc,_⟩:=Z8 hown
  injection e with _ _ e
  omega
 have hnn:A=none→n=0:=by
  rintro rfl
  rcases hown.2 with⟨_,h⟩|⟨g,cap,cur,h,_⟩
  ·exact h
  ·cases h
 cases A with
 |none=>
  obtain rfl:=hnn rfl
  go_enter Tryz.func268,Tryz.ntmps268
  go_wp2_with ((with_reducible refine jZ (c:=lc) zab znt hown hr h1 ?a0 ?a1 ?a2 ?a3 ?a4 ?a5 ?a6 ?_);(case a0=>exact hbase);(case a1=>rfl);(case a2=>rfl);(case a3=>rfl);(case a4=>omega);(case a5=>unfold maxLen;omega);(case a6=>omega);rintro v w2 h1 - h2 h3;replace h3:=QV h3)
  go_ret
  exact⟨_,rfl,h1,yi.of_grown h2 (fun i e=>e),h3⟩
 | some ad=>
  go_enter Tryz.func268,Tryz.ntmps268
  go_wp2_with ((with_reducible refine jZ (c:=lc) zab znt hown hr h1 ?a0 ?a1 ?a2 ?a3 ?a4 ?a5 ?a6 ?_);(case a0=>exact hbase);(case a1=>rfl);(case a2=>rfl);(case a3=>rfl);(case a4=>omega);(case a5=>unfold maxLen;omega);(case a6=>omega);rintro v w2 h1 - h2 h3;replace h3:=QV h3)
  all_goals
   go_ret
   exact⟨_,rfl,h1,yi.of_grown h2 (fun i e=>e),h3⟩
set_option maxRecDepth 100000 in
set_option maxHeartbeats 4000000 in
theorem zgX (w:World) (base g n c i vb:Nat) (cur xs ys:List Value) (hb:base≤g) (hg:Blk w g 94 cur.toArray) (hcur:cur.length=c*4) (hx:cur.take (n*4)=xs) (hi:i<n) (hc:n+1≤c) (hcm:c≤9223372036854775807) (hn:n≤1000000000000)
  (lc:Nat) (lit:List Value) (hv:Blk w vb 94 lit.toArray) (hlk: ∀(j:Nat) u,ys[j]? =some u→lit[j]? =some u) (hy:ys.length=4) (hne:vb≠g) (h1: ∀u∈ys,u.oneCell'=true) (h1x: ∀u∈xs,u.oneCell'=true):
  Calls Tryz.prog 268 #[.slice (some ⟨g,0,none⟩) n c,.int .i64 i,.slice (some ⟨vb,0,none⟩) 1 lc] w fun e w'=>
   ∃v,e= .returned v∧w'.ownsRow base 94 4 v (n+1) (xs.take (i*4)++ys++xs.drop (i*4))∧yi (fun i=>some i=some g) w w'∧(∀b,v.ownBlock=some b→some b=some g∨w.heap.size≤b):=by
 have hov: ∀lb cb,(callFunc 326 #[.slice (some ⟨vb,0,none⟩) 1 lc,.slice (some ⟨g,(i+1)*4,none⟩) lb cb]).run Tryz.prog w= .ok (.value (.bool false)) w:=fun lb cb=>by
  rw[run_callFunc_extern Tryz.func326 (by kernel_rfl) (by kernel_rfl) (by kernel_rfl) (e:=Extern.SlicesOverlaps.overlaps #[23,23] #[4]) (by kernel_rfl),
   Lib.run_overlaps_apart w 23 4 94 zab 4 (fun w'=>by kernel_rfl) ⟨vb,0,none⟩ ⟨g,(i+1)*4,none⟩ 1 lc lb cb hne _ _ _ _ (QT hv) (QT hg) (by rw[List.size_toArray];omega) (hv.frozen 0) (hv.frozen _)]
  rfl
 have hxl:xs.length=n*4:=by rw[←hx,List.length_take];omega
 have hcp1: ∀ty dc sc,(Builtin.copy_ #[23,23] ty #[.slice (some ⟨g,(i+1)*4,none⟩) (n - i) dc,.slice (some ⟨g,i*4,none⟩) (n+1 - i) sc]).run Tryz.prog w.drew=_:=fun ty dc sc=>
  yN (w:=w.drew) (k:=4) (m:=n - i) (cur:=cur) (news:=xs.drop (i*4)) zab znt.size_ hg.drew (by omega) (by rw[List.length_drop];omega) (fun _=>⟨_,rfl,fun j v hj=>by
   rw[z6,hg.drew.cell]
   rw[List.getElem?_drop,←hx,List.getElem?_take]at hj
   split at hj
   ·simpa using hj
   ·cases hj⟩) (by omega) (fun v hv=>h1x v (List.mem_of_mem_drop hv))
 obtain⟨L1,hL1⟩: ∃L1,L1=yu cur ((i+1)*4) (xs.drop (i*4)):=⟨_,rfl⟩
 have hl1:L1.length=cur.length:=by rw[hL1];exact qq (by rw[List.length_drop];omega)
 rw[←hL1]at hcp1
 obtain⟨W1,hW1⟩: ∃W1,W1=w.drew.setRow g L1.toArray:=⟨_,rfl⟩
 rw[←hW1]at hcp1
 have hg1:Blk W1 g 94 L1.toArray:=by rw[hW1];exact hg.drew.setRow_ _
 have hv1:Blk W1 vb 94 lit.toArray:=by rw[hW1];exact hv.drew.setRow_far hne _
 have hb1:yi (fun i=>some i=some g) w W1:=by rw[hW1];exact(yi.refl (fun i=>some i=some g) w).drew.setRow (fun _=>rfl) _
 have hcp2: ∀ty dc,(Builtin.copy_ #[23,23] ty #[.slice (some ⟨g,i*4,none⟩) (n+1 - i) dc,.slice (some ⟨vb,0,none⟩) 1 lc]).run Tryz.prog W1=_:=fun ty dc=>
  yN (w:=W1) (k:=4) (m:=1) (cur:=L1) (news:=ys) zab znt.size_ hg1 (by omega) (by omega) (fun _=>⟨_,rfl,fun j v hj=>by
   rw[z6,hv1.cell]
   simpa using hlk j v hj⟩) (by omega) h1
 have hw1:IntKind.i64.wrap ((i:Int)+1)=(i:Int)+1:=by rw[IntKind.wrap_i64];omega
 have hw2:IntKind.i64.wrap ((n:Int)+1)=(n:Int)+1:=by rw[IntKind.wrap_i64];omega
 have hz2: ¬((i:Int)=(n:Int)):=by omega
 have hb2: ¬(c=i+1):=by omega
 have hb4: ¬(c=i):=by omega
 have hb1':(0:Int)≤(i:Int)+1:=by omega
 have hb3:(i:Int)≤(n:Int)+1:=by omega
 have hin:i≤n:=by omega
 have hfin:((W1.setRow g (yu L1 (i*4) ys).toArray)).ownsRow base 94 4 (.slice (some ⟨g,0,none⟩) (n+1) c) (n+1) (xs.take (i*4)++ys++xs.drop (i*4)):=by
  refine⟨by simp;omega,.inr ⟨g,c,_,rfl,hb,hg1.setRow_ _,hc,by unfold maxLen;omega,?_,?_⟩⟩
  ·rw[List.size_toArray,qq (by omega)];omega
  ·rw[hL1]
   exact zbL hi hc hcur hx hy
 have hbf:yi (fun i=>some i=some g) w (W1.setRow g (yu L1 (i*4) ys).toArray):=hb1.setRow (fun _=>rfl) _
 have Hfin:=Lib.hid hfin
 clear hcur hx hl1 hL1 hW1 hfin
 go_enter Tryz.func268,Tryz.ntmps268
 go_wp2_with (simp only[hov])
 go_region_law (refine jt rfl rfl (fun ty=>hcp1 ty _ _) (by simp[Act.eval,Act.put]) (by simp[Act.eval,Act.put]) ?_)
 go_wp2
 go_ret
 exact⟨_,rfl,Hfin.out,hbf,fun b hb=>.inl hb.symm⟩
set_option maxRecDepth 100000 in
set_option maxHeartbeats 4000000 in
theorem ziY (w:World) (base g n i vb:Nat) (xs ys:List Value) (hb:base≤g) (hg:Blk w g 94 xs.toArray) (hxl:xs.length=n*4) (hi:i<n) (hn:n≤1000000000000)
  (lc:Nat) (lit:List Value) (hv:Blk w vb 94 lit.toArray) (hlk: ∀(j:Nat) u,ys[j]? =some u→lit[j]? =some u) (hy:ys.length=4) (h1: ∀u∈ys,u.oneCell'=true) (h1x: ∀u∈xs,u.oneCell'=true):
  Calls Tryz.prog 268 #[.slice (some ⟨g,0,none⟩) n n,.int .i64 i,.slice (some ⟨vb,0,none⟩) 1 lc] w fun e w'=>
   ∃v,e= .returned v∧w'.ownsRow base 94 4 v (n+1) (xs.take (i*4)++ys++xs.drop (i*4))∧yi (fun i=>some i=some g) w w'∧(∀b,v.ownBlock=some b→some b=some g∨w.heap.size≤b):=by
 obtain⟨i0,hi0,hz0,hzs,hzb⟩:=znt
 have hkk:(n:Int)+1 - (i:Int)=((n+1 - i:Nat):Int):=by omega
 have hik:i+(n+1 - i)=n+1:=by omega
 have hcw: ∀j v,(xs.take (i*4))[j]? =some v→w.cell? ((⟨g,0,none⟩:Addr).add j)=some v:=fun j v hj=>by
  rw[z6,Nat.zero_add,hg.cell]
  rw[List.getElem?_take]at hj
  split at hj
  ·simpa using hj
  ·cases hj
 have hold:(Builtin.firstCells i0.size i (.slice (some ⟨g,0,none⟩) i n)).run Tryz.prog w.drew= .ok (xs.take (i*4)).toArray w.drew:=by
  rw[hzs]
  exact run_firstCells_some w.drew 4 i _ i n _ (by rw[List.length_take];omega) hcw
 have hrz: ∀ty,(Builtin.append_ #[23,3] ty #[.slice (some ⟨g,0,none⟩) i n,.int .i64 ((n:Int)+1 - (i:Int))]).run Tryz.prog w=
   .ok (.slice (some ⟨w.heap.size,0,none⟩) (n+1) (grownCap w (n+1) n 94)) (w.drew.alloc (.cells ((xs.take (i*4)).toArray++Builtin.zeroCells (Value.agg #[.int .i64 0,.int .i64 0,.int .i64 0,.int .i64 0]).cells (n+1 - i)++
    Builtin.zeroCells (Value.agg #[.int .i64 0,.int .i64 0,.int .i64 0,.int .i64 0]).cells (grownCap w (n+1) n 94 - (n+1))) 94)):=fun ty=>by
  have h:=Lib.run_append_grow_zeros w 23 3 ty 94 i0 _ .i64 .i64 zab (by kernel_rfl) hi0 hz0 (some ⟨g,0,none⟩) i n (xs.take (i*4)) hold (n+1 - i) (by omega) (by omega) (by omega) (by omega) (by rw[hzb];omega) (by rw[hzb,hik];exact growslice_fits (by omega) (by omega))
  rw[hik]at h
  rw[hkk]
  exact h
 obtain⟨G,hG⟩: ∃G,G=grownCap w (n+1) n 94:=⟨_,rfl⟩
 rw[←hG]at hrz
 obtain⟨Z,hZ,hZl⟩: ∃Z:List Value,(xs.take (i*4)).toArray++Builtin.zeroCells (Value.agg #[.int .i64 0,.int .i64 0,.int .i64 0,.int .i64 0]).cells (n+1 - i)++Builtin.zeroCells (Value.agg #[.int .i64 0,.int .i64 0,.int .i64 0,.int .i64 0]).cells (G - (n+1))=(xs.take (i*4)++Z).toArray∧Z.length=(n+1 - i)*4+(G - (n+1))*4:=by
  refine⟨(Builtin.zeroCells (Value.agg #[.int .i64 0,.int .i64 0,.int .i64 0,.int .i64 0]).cells (n+1 - i)++Builtin.zeroCells (Value.agg #[.int .i64 0,.int .i64 0,.int .i64 0,.int .i64 0]).cells (G - (n+1))).toList,?_,?_⟩
  ·apply Array.ext'
   simp
  ·simp[yf,Value.cells]
 rw[hZ]at hrz
 clear hZ
 have hGn:n+1≤G:=by rw[hG];exact grownCap_ge w _ _ _
 have hG63:G≤maxLen:=by rw[hG];exact grownCap_le_maxLen w (n+1) n _ (by unfold maxLen;omega)
 clear hG hold hi0 hz0 hzs hzb i0
 obtain⟨L0,hL0⟩: ∃L0,L0=xs.take (i*4)++Z:=⟨_,rfl⟩
 have hl0:L0.length=G*4:=by rw[hL0,List.length_append,List.length_take,hZl];omega
 rw[←hL0]at hrz
 obtain⟨W1,hW1⟩: ∃W1,W1=w.drew.alloc (.cells L0.toArray 94):=⟨_,rfl⟩
 rw[←hW1]at hrz
 have hN:Blk W1 w.heap.size 94 L0.toArray:=by rw[hW1];exact Blk.new _ _ _
 have hg1:Blk W1 g 94 xs.toArray:=by rw[hW1];exact hg.drew.alloc _
 have hv1:Blk W1 vb 94 lit.toArray:=by rw[hW1];exact hv.drew.alloc _
 have hb1:Below w.heap.size w W1:=by rw[hW1];exact(Below.refl _ w).drew.alloc (Nat.le_refl _) _
 have hcpA: ∀ty dc,(Builtin.copy_ #[23,23] ty #[.slice (some ⟨w.heap.size,i*4,none⟩) (n+1 - i) dc,.slice (some ⟨vb,0,none⟩) 1 lc]).run Tryz.prog W1=_:=fun ty dc=>
  yN (w:=W1) (k:=4) (m:=1) (cur:=L0) (news:=ys) zab znt.size_ hN (by omega) (by omega) (fun _=>⟨_,rfl,fun j v hj=>by
   rw[z6,hv1.cell]
   simpa using hlk j v hj⟩) (by omega) h1
 obtain⟨L1,hL1⟩: ∃L1,L1=yu L0 (i*4) ys:=⟨_,rfl⟩
 have hl1:L1.length=L0.length:=by rw[hL1];exact qq (by omega)
 rw[←hL1]at hcpA
 obtain⟨W2,hW2⟩: ∃W2,W2=W1.setRow w.heap.size L1.toArray:=⟨_,rfl⟩
 rw[←hW2]at hcpA
 have hN2:Blk W2 w.heap.size 94 L1.toArray:=by rw[hW2];exact hN.setRow_ _
 have hg2:Blk W2 g 94 xs.toArray:=by rw[hW2];exact hg1.setRow_far (by have:=hg.lt;omega) _
 have hb2:Below w.heap.size w W2:=by rw[hW2];exact below_setRow hb1 (Nat.le_refl _) _
 have hcpB: ∀ty dc sc,(Builtin.copy_ #[23,23] ty #[.slice (some ⟨w.heap.size,(i+1)*4,none⟩) (n - i) dc,.slice (some ⟨g,i*4,none⟩) (n - i) sc]).run Tryz.prog W2.drew=_:=fun ty dc sc=>
  yN (w:=W2.drew) (k:=4) (m:=n - i) (cur:=L1) (news:=xs.drop (i*4)) zab znt.size_ hN2.drew (by omega) (by rw[List.length_drop];omega) (fun _=>⟨_,rfl,fun j v hj=>by
   rw[z6,hg2.drew.cell]
   rw[List.getElem?_drop]at hj
   simpa using hj⟩) (by omega) (fun v hv=>h1x v (List.mem_of_mem_drop hv))
 obtain⟨L2,hL2⟩: ∃L2,L2=yu L1 ((i+1)*4) (xs.drop (i*4)):=⟨_,rfl⟩
 have hl2:L2.length=L1.length:=by rw[hL2];exact qq (by rw[List.length_drop];omega)
 rw[←hL2]at hcpB
 obtain⟨W3,hW3⟩: ∃W3,W3=W2.drew.setRow w.heap.size L2.toArray:=⟨_,rfl⟩
 rw[←hW3]at hcpB
 have hbw:base≤w.heap.size:=by have:=hg.lt;omega
 have hfin:W3.ownsRow base 94 4 (.slice (some ⟨w.heap.size,0,none⟩) (n+1) G) (n+1) (xs.take (i*4)++ys++xs.drop (i*4)):=by
  refine⟨by simp;omega,.inr ⟨_,G,L2.toArray,rfl,hbw,?_,hGn,hG63,?_,?_⟩⟩
  ·rw[hW3];exact hN2.drew.setRow_ _
  ·rw[List.size_toArray];omega
  ·rw[hL2,hL1,hL0]
   exact zdF hi hxl hy (by omega)
 have hbf:yi (fun i=>some i=some g) w W3:=by rw[hW3];exact yi.of_below (below_setRow hb2.drew (Nat.le_refl _) _) _
 have hw1:IntKind.i64.wrap ((i:Int)+1)=(i:Int)+1:=by rw[IntKind.wrap_i64];omega
 have hw2:IntKind.i64.wrap ((n:Int)+1)=(n:Int)+1:=by rw[IntKind.wrap_i64];omega
 have hz2: ¬((i:Int)=(n:Int)):=by omega
 have hc2: ¬(G=i+1):=by clear hw1 hw2;omega
 have hc4: ¬(G=i):=by clear hw1 hw2;omega
 have hc5: ¬(n=i):=by omega
 have hb1':(0:Int)≤(i:Int)+1:=by omega
 have hb3:(i:Int)≤(n:Int):=by omega
 have hin:i≤n:=by omega
 have Hfin:=Lib.hid hfin
 clear hfin hL2 hL1 hL0 hl2 hl1 hl0 hW3 hW2 hW1 hkk hik hZl hcw
 go_enter Tryz.func268,Tryz.ntmps268
 go_wp2_with ((with_reducible refine YR hrz ?a1 ?a2 ?_);(case a1=>rfl);(case a2=>rfl))
 go_region_law (refine jt rfl rfl (fun ty=>hcpB ty _ _) (by simp[Act.eval,Act.put]) (by simp[Act.eval,Act.put]) ?_)
 go_wp2
 go_ret
 exact⟨_,rfl,Hfin.out,hbf,fun b hb=>.inr (by have hb:some w.heap.size=some b:=hb;injection hb with hb;omega)⟩
theorem zmr (w:World) (base:Nat) (A:Option Addr) (n c i vb:Nat) (xs ys:List Value) (hown:w.ownsRow base 94 4 (.slice A n c) n xs) (hbase:base≤w.heap.size) (hi:i≤n) (hn:n≤1000000000000)
  (lc:Nat) (lit:List Value) (hv:Blk w vb 94 lit.toArray) (hlk: ∀(j:Nat) u,ys[j]? =some u→lit[j]? =some u) (hy:ys.length=4) (hne: ∀ad,A=some ad→vb≠ad.block) (h1: ∀u∈ys,u.oneCell'=true) (h1x: ∀u∈xs,u.oneCell'=true):
  Calls Tryz.prog 268 #[.slice A n c,.int .i64 i,.slice (some ⟨vb,0,none⟩) 1 lc] w fun e w'=>
   ∃v,e= .returned v∧w'.ownsRow base 94 4 v (n+1) (xs.take (i*4)++ys++xs.drop (i*4))∧yi (fun i=>some i=(Value.slice A n c).ownBlock) w w'∧(∀b,v.ownBlock=some b→some b=(Value.slice A n c).ownBlock∨w.heap.size≤b):=by
 rcases Nat.lt_or_ge i n with hlt|hge
 ·rcases hown.2 with⟨_,h⟩|⟨g,cap,cur,e,hb,hg,hnc,hcm,hcs,hx⟩
  ·omega
  ·injection e with e1 e2 e3
   subst e1
   subst e3
   rcases Nat.lt_or_ge n c with hr|hr
   ·exact zgX w base g n c i vb cur.toList xs ys hb (by simpa[Blk]using hg) (by simpa using hcs) hx hlt hr (by unfold maxLen at hcm;omega) hn lc lit hv hlk hy (hne _ rfl) h1 h1x
   ·obtain rfl:c=n:=by omega
    have hcx:cur=xs.toArray:=by
     apply Array.ext'
     rw[←hx]
     simp only
     rw[List.take_of_length_le (by simp;omega)]
    subst hcx
    exact ziY w base g c i vb xs ys hb hg (by simpa using hcs) hlt hn lc lit hv hlk hy h1 h1x
 ·obtain rfl:i=n:=by omega
  have hxl:=hown.1
  rw[List.take_of_length_le (by omega),List.drop_of_length_le (by omega),List.append_nil]
  exact zkH w base A i c vb xs ys hown hbase hn lc lit hv hlk hy h1
theorem zr6 (rows:List (List F)) (r:List F) (i:Nat) (hi:i≤rows.length) (hn:rows.length≤1000000000000):zA Tryz.prog 268 [.c (.o 0),.c (.f (.s (.int .i64 i))),.c (.o 1)] [] [(0,94,4,rows),(1,94,4,[r])] (.c (.o 0)) [] [(0,94,4,rows.take i++[r]++rows.drop i),(1,94,4,[r])]:=
 zdM ⟨_,Tryz.func268,by kernel_rfl,by kernel_rfl⟩ (fun w A n c i vb xs ys h1 h2 h3 lc lit h4 h5 h6 h7 h8 h9=>zmr w 0 A n c i vb xs ys h1 (Nat.zero_le _) h2 h3 lc lit h4 h5 h6 h7 h8 h9) rows r i hi hn
theorem zkz:Inf Tryz.prog 43 (.agg #[.int .i64 0,.int .i64 0,.int .i64 0,.slice none 0 0,.bool false,.int .i64 0]) 6 64:=Inf.of (by kernel_rfl)
theorem YM:Tryz.prog.underlying 24=some (.slice 43):=by kernel_rfl
set_option maxRecDepth 100000 in
set_option maxHeartbeats 4000000 in
theorem zmm (w:World) (base:Nat) (A:Option Addr) (n c vb:Nat) (xs ys:List Value) (hown:w.ownsRow base 43 6 (.slice A n c) n xs) (hbase:base≤w.heap.size) (hn:n≤1000000000000)
  (lc:Nat) (lit:List Value) (hv:Blk w vb 43 lit.toArray) (hlk: ∀(j:Nat) u,ys[j]? =some u→lit[j]? =some u) (hy:ys.length=6) (h1: ∀u∈ys,u.oneCell'=true):
  Calls Tryz.prog 323 #[.slice A n c,.int .i64 n,.slice (some ⟨vb,0,none⟩) 1 lc] w fun e w'=>
   ∃v,e= .returned v∧w'.ownsRow base 43 6 v (n+1) (xs++ys)∧yi (fun i=>some i=(Value.slice A n c).ownBlock) w w'∧(∀b,v.ownBlock=some b→some b=(Value.slice A n c).ownBlock∨w.heap.size≤b):=by
 have hr:Reads w w.heap.size 6 (some ⟨vb,0,none⟩) 1 ys:=Reads.of_blk hv (by omega) (fun j u h=>by simpa using hlk j u h)
 have hnc:n≤c:=by
  obtain⟨A',c',e,hc,_⟩:=Z8 hown
  injection e with _ _ e
  omega
 have hnn:A=none→n=0:=by
  rintro rfl
  rcases hown.2 with⟨_,h⟩|⟨g,cap,cur,h,_⟩
  ·exact h
  ·cases h
 cases A with
 |none=>
  obtain rfl:=hnn rfl
  go_enter Tryz.func323,Tryz.ntmps323
  go_wp2_with ((with_reducible refine jZ (c:=lc) YM zkz hown hr h1 ?a0 ?a1 ?a2 ?a3 ?a4 ?a5 ?a6 ?_);(case a0=>exact hbase);(case a1=>rfl);(case a2=>rfl);(case a3=>rfl);(case a4=>omega);(case a5=>unfold maxLen;omega);(case a6=>omega);rintro v w2 h1 - h2 h3;replace h3:=QV h3)
  go_ret
  exact⟨_,rfl,h1,yi.of_grown h2 (fun i e=>e),h3⟩
 | some ad=>
  go_enter Tryz.func323,Tryz.ntmps323
  go_wp2_with ((with_reducible refine jZ (c:=lc) YM zkz hown hr h1 ?a0 ?a1 ?a2 ?a3 ?a4 ?a5 ?a6 ?_);(case a0=>exact hbase);(case a1=>rfl);(case a2=>rfl);(case a3=>rfl);(case a4=>omega);(case a5=>unfold maxLen;omega);(case a6=>omega);rintro v w2 h1 - h2 h3;replace h3:=QV h3)
  all_goals
   go_ret
   exact⟨_,rfl,h1,yi.of_grown h2 (fun i e=>e),h3⟩
set_option maxRecDepth 100000 in
set_option maxHeartbeats 4000000 in
theorem zgI (w:World) (base g n c i vb:Nat) (cur xs ys:List Value) (hb:base≤g) (hg:Blk w g 43 cur.toArray) (hcur:cur.length=c*6) (hx:cur.take (n*6)=xs) (hi:i<n) (hc:n+1≤c) (hcm:c≤9223372036854775807) (hn:n≤1000000000000)
  (lc:Nat) (lit:List Value) (hv:Blk w vb 43 lit.toArray) (hlk: ∀(j:Nat) u,ys[j]? =some u→lit[j]? =some u) (hy:ys.length=6) (hne:vb≠g) (h1: ∀u∈ys,u.oneCell'=true) (h1x: ∀u∈xs,u.oneCell'=true):
  Calls Tryz.prog 323 #[.slice (some ⟨g,0,none⟩) n c,.int .i64 i,.slice (some ⟨vb,0,none⟩) 1 lc] w fun e w'=>
   ∃v,e= .returned v∧w'.ownsRow base 43 6 v (n+1) (xs.take (i*6)++ys++xs.drop (i*6))∧yi (fun i=>some i=some g) w w'∧(∀b,v.ownBlock=some b→some b=some g∨w.heap.size≤b):=by
 have hov: ∀lb cb,(callFunc 351 #[.slice (some ⟨vb,0,none⟩) 1 lc,.slice (some ⟨g,(i+1)*6,none⟩) lb cb]).run Tryz.prog w= .ok (.value (.bool false)) w:=fun lb cb=>by
  rw[run_callFunc_extern Tryz.func351 (by kernel_rfl) (by kernel_rfl) (by kernel_rfl) (e:=Extern.SlicesOverlaps.overlaps #[24,24] #[4]) (by kernel_rfl),
   Lib.run_overlaps_apart w 24 4 43 YM 6 (fun w'=>by kernel_rfl) ⟨vb,0,none⟩ ⟨g,(i+1)*6,none⟩ 1 lc lb cb hne _ _ _ _ (QT hv) (QT hg) (by rw[List.size_toArray];omega) (hv.frozen 0) (hv.frozen _)]
  rfl
 have hxl:xs.length=n*6:=by rw[←hx,List.length_take];omega
 have hcp1: ∀ty dc sc,(Builtin.copy_ #[24,24] ty #[.slice (some ⟨g,(i+1)*6,none⟩) (n - i) dc,.slice (some ⟨g,i*6,none⟩) (n+1 - i) sc]).run Tryz.prog w.drew=_:=fun ty dc sc=>
  yN (w:=w.drew) (k:=6) (m:=n - i) (cur:=cur) (news:=xs.drop (i*6)) YM zkz.size_ hg.drew (by omega) (by rw[List.length_drop];omega) (fun _=>⟨_,rfl,fun j v hj=>by
   rw[z6,hg.drew.cell]
   rw[List.getElem?_drop,←hx,List.getElem?_take]at hj
   split at hj
   ·simpa using hj
   ·cases hj⟩) (by omega) (fun v hv=>h1x v (List.mem_of_mem_drop hv))
 obtain⟨L1,hL1⟩: ∃L1,L1=yu cur ((i+1)*6) (xs.drop (i*6)):=⟨_,rfl⟩
 have hl1:L1.length=cur.length:=by rw[hL1];exact qq (by rw[List.length_drop];omega)
 rw[←hL1]at hcp1
 obtain⟨W1,hW1⟩: ∃W1,W1=w.drew.setRow g L1.toArray:=⟨_,rfl⟩
 rw[←hW1]at hcp1
 have hg1:Blk W1 g 43 L1.toArray:=by rw[hW1];exact hg.drew.setRow_ _
 have hv1:Blk W1 vb 43 lit.toArray:=by rw[hW1];exact hv.drew.setRow_far hne _
 have hb1:yi (fun i=>some i=some g) w W1:=by rw[hW1];exact(yi.refl (fun i=>some i=some g) w).drew.setRow (fun _=>rfl) _
 have hcp2: ∀ty dc,(Builtin.copy_ #[24,24] ty #[.slice (some ⟨g,i*6,none⟩) (n+1 - i) dc,.slice (some ⟨vb,0,none⟩) 1 lc]).run Tryz.prog W1=_:=fun ty dc=>
  yN (w:=W1) (k:=6) (m:=1) (cur:=L1) (news:=ys) YM zkz.size_ hg1 (by omega) (by omega) (fun _=>⟨_,rfl,fun j v hj=>by
   rw[z6,hv1.cell]
   simpa using hlk j v hj⟩) (by omega) h1
 have hw1:IntKind.i64.wrap ((i:Int)+1)=(i:Int)+1:=by rw[IntKind.wrap_i64];omega
 have hw2:IntKind.i64.wrap ((n:Int)+1)=(n:Int)+1:=by rw[IntKind.wrap_i64];omega
 have hz2: ¬((i:Int)=(n:Int)):=by omega
 have hb2: ¬(c=i+1):=by omega
 have hb4: ¬(c=i):=by omega
 have hb1':(0:Int)≤(i:Int)+1:=by omega
 have hb3:(i:Int)≤(n:Int)+1:=by omega
 have hin:i≤n:=by omega
 have hfin:((W1.setRow g (yu L1 (i*6) ys).toArray)).ownsRow base 43 6 (.slice (some ⟨g,0,none⟩) (n+1) c) (n+1) (xs.take (i*6)++ys++xs.drop (i*6)):=by
  refine⟨by simp;omega,.inr ⟨g,c,_,rfl,hb,hg1.setRow_ _,hc,by unfold maxLen;omega,?_,?_⟩⟩
  ·rw[List.size_toArray,qq (by omega)];omega
  ·rw[hL1]
   exact zbL hi hc hcur hx hy
 have hbf:yi (fun i=>some i=some g) w (W1.setRow g (yu L1 (i*6) ys).toArray):=hb1.setRow (fun _=>rfl) _
 have Hfin:=Lib.hid hfin
 clear hcur hx hl1 hL1 hW1 hfin
 go_enter Tryz.func323,Tryz.ntmps323
 go_wp2_with (simp only[hov])
 go_region_law (refine jt rfl rfl (fun ty=>hcp1 ty _ _) (by simp[Act.eval,Act.put]) (by simp[Act.eval,Act.put]) ?_)
 go_wp2
 go_ret
 exact⟨_,rfl,Hfin.out,hbf,fun b hb=>.inl hb.symm⟩
set_option maxRecDepth 100000 in
set_option maxHeartbeats 4000000 in
theorem zi5 (w:World) (base g n i vb:Nat) (xs ys:List Value) (hb:base≤g) (hg:Blk w g 43 xs.toArray) (hxl:xs.length=n*6) (hi:i<n) (hn:n≤1000000000000)
  (lc:Nat) (lit:List Value) (hv:Blk w vb 43 lit.toArray) (hlk: ∀(j:Nat) u,ys[j]? =some u→lit[j]? =some u) (hy:ys.length=6) (h1: ∀u∈ys,u.oneCell'=true) (h1x: ∀u∈xs,u.oneCell'=true):
  Calls Tryz.prog 323 #[.slice (some ⟨g,0,none⟩) n n,.int .i64 i,.slice (some ⟨vb,0,none⟩) 1 lc] w fun e w'=>
   ∃v,e= .returned v∧w'.ownsRow base 43 6 v (n+1) (xs.take (i*6)++ys++xs.drop (i*6))∧yi (fun i=>some i=some g) w w'∧(∀b,v.ownBlock=some b→some b=some g∨w.heap.size≤b):=by
 obtain⟨i0,hi0,hz0,hzs,hzb⟩:=zkz
 have hkk:(n:Int)+1 - (i:Int)=((n+1 - i:Nat):Int):=by omega
 have hik:i+(n+1 - i)=n+1:=by omega
 have hcw: ∀j v,(xs.take (i*6))[j]? =some v→w.cell? ((⟨g,0,none⟩:Addr).add j)=some v:=fun j v hj=>by
  rw[z6,Nat.zero_add,hg.cell]
  rw[List.getElem?_take]at hj
  split at hj
  ·simpa using hj
  ·cases hj
 have hold:(Builtin.firstCells i0.size i (.slice (some ⟨g,0,none⟩) i n)).run Tryz.prog w.drew= .ok (xs.take (i*6)).toArray w.drew:=by
  rw[hzs]
  exact run_firstCells_some w.drew 6 i _ i n _ (by rw[List.length_take];omega) hcw
 have hrz: ∀ty,(Builtin.append_ #[24,3] ty #[.slice (some ⟨g,0,none⟩) i n,.int .i64 ((n:Int)+1 - (i:Int))]).run Tryz.prog w=
   .ok (.slice (some ⟨w.heap.size,0,none⟩) (n+1) (grownCap w (n+1) n 43)) (w.drew.alloc (.cells ((xs.take (i*6)).toArray++Builtin.zeroCells (Value.agg #[.int .i64 0,.int .i64 0,.int .i64 0,.slice none 0 0,.bool false,.int .i64 0]).cells (n+1 - i)++
    Builtin.zeroCells (Value.agg #[.int .i64 0,.int .i64 0,.int .i64 0,.slice none 0 0,.bool false,.int .i64 0]).cells (grownCap w (n+1) n 43 - (n+1))) 43)):=fun ty=>by
  have h:=Lib.run_append_grow_zeros w 24 3 ty 43 i0 _ .i64 .i64 YM (by kernel_rfl) hi0 hz0 (some ⟨g,0,none⟩) i n (xs.take (i*6)) hold (n+1 - i) (by omega) (by omega) (by omega) (by omega) (by rw[hzb];omega) (by rw[hzb,hik];exact growslice_fits (by omega) (by omega))
  rw[hik]at h
  rw[hkk]
  exact h
 obtain⟨G,hG⟩: ∃G,G=grownCap w (n+1) n 43:=⟨_,rfl⟩
 rw[←hG]at hrz
 obtain⟨Z,hZ,hZl⟩: ∃Z:List Value,(xs.take (i*6)).toArray++Builtin.zeroCells (Value.agg #[.int .i64 0,.int .i64 0,.int .i64 0,.slice none 0 0,.bool false,.int .i64 0]).cells (n+1 - i)++Builtin.zeroCells (Value.agg #[.int .i64 0,.int .i64 0,.int .i64 0,.slice none 0 0,.bool false,.int .i64 0]).cells (G - (n+1))=(xs.take (i*6)++Z).toArray∧Z.length=(n+1 - i)*6+(G - (n+1))*6:=by
  refine⟨(Builtin.zeroCells (Value.agg #[.int .i64 0,.int .i64 0,.int .i64 0,.slice none 0 0,.bool false,.int .i64 0]).cells (n+1 - i)++Builtin.zeroCells (Value.agg #[.int .i64 0,.int .i64 0,.int .i64 0,.slice none 0 0,.bool false,.int .i64 0]).cells (G - (n+1))).toList,?_,?_⟩
  ·apply Array.ext'
   simp
  ·simp[yf,Value.cells]
 rw[hZ]at hrz
 clear hZ
 have hGn:n+1≤G:=by rw[hG];exact grownCap_ge w _ _ _
 have hG63:G≤maxLen:=by rw[hG];exact grownCap_le_maxLen w (n+1) n _ (by unfold maxLen;omega)
 clear hG hold hi0 hz0 hzs hzb i0
 obtain⟨L0,hL0⟩: ∃L0,L0=xs.take (i*6)++Z:=⟨_,rfl⟩
 have hl0:L0.length=G*6:=by rw[hL0,List.length_append,List.length_take,hZl];omega
 rw[←hL0]at hrz
 obtain⟨W1,hW1⟩: ∃W1,W1=w.drew.alloc (.cells L0.toArray 43):=⟨_,rfl⟩
 rw[←hW1]at hrz
 have hN:Blk W1 w.heap.size 43 L0.toArray:=by rw[hW1];exact Blk.new _ _ _
 have hg1:Blk W1 g 43 xs.toArray:=by rw[hW1];exact hg.drew.alloc _
 have hv1:Blk W1 vb 43 lit.toArray:=by rw[hW1];exact hv.drew.alloc _
 have hb1:Below w.heap.size w W1:=by rw[hW1];exact(Below.refl _ w).drew.alloc (Nat.le_refl _) _
 have hcpA: ∀ty dc,(Builtin.copy_ #[24,24] ty #[.slice (some ⟨w.heap.size,i*6,none⟩) (n+1 - i) dc,.slice (some ⟨vb,0,none⟩) 1 lc]).run Tryz.prog W1=_:=fun ty dc=>
  yN (w:=W1) (k:=6) (m:=1) (cur:=L0) (news:=ys) YM zkz.size_ hN (by omega) (by omega) (fun _=>⟨_,rfl,fun j v hj=>by
   rw[z6,hv1.cell]
   simpa using hlk j v hj⟩) (by omega) h1
 obtain⟨L1,hL1⟩: ∃L1,L1=yu L0 (i*6) ys:=⟨_,rfl⟩
 have hl1:L1.length=L0.length:=by rw[hL1];exact qq (by omega)
 rw[←hL1]at hcpA
 obtain⟨W2,hW2⟩: ∃W2,W2=W1.setRow w.heap.size L1.toArray:=⟨_,rfl⟩
 rw[←hW2]at hcpA
 have hN2:Blk W2 w.heap.size 43 L1.toArray:=by rw[hW2];exact hN.setRow_ _
 have hg2:Blk W2 g 43 xs.toArray:=by rw[hW2];exact hg1.setRow_far (by have:=hg.lt;omega) _
 have hb2:Below w.heap.size w W2:=by rw[hW2];exact below_setRow hb1 (Nat.le_refl _) _
 have hcpB: ∀ty dc sc,(Builtin.copy_ #[24,24] ty #[.slice (some ⟨w.heap.size,(i+1)*6,none⟩) (n - i) dc,.slice (some ⟨g,i*6,none⟩) (n - i) sc]).run Tryz.prog W2.drew=_:=fun ty dc sc=>
  yN (w:=W2.drew) (k:=6) (m:=n - i) (cur:=L1) (news:=xs.drop (i*6)) YM zkz.size_ hN2.drew (by omega) (by rw[List.length_drop];omega) (fun _=>⟨_,rfl,fun j v hj=>by
   rw[z6,hg2.drew.cell]
   rw[List.getElem?_drop]at hj
   simpa using hj⟩) (by omega) (fun v hv=>h1x v (List.mem_of_mem_drop hv))
 obtain⟨L2,hL2⟩: ∃L2,L2=yu L1 ((i+1)*6) (xs.drop (i*6)):=⟨_,rfl⟩
 have hl2:L2.length=L1.length:=by rw[hL2];exact qq (by rw[List.length_drop];omega)
 rw[←hL2]at hcpB
 obtain⟨W3,hW3⟩: ∃W3,W3=W2.drew.setRow w.heap.size L2.toArray:=⟨_,rfl⟩
 rw[←hW3]at hcpB
 have hbw:base≤w.heap.size:=by have:=hg.lt;omega
 have hfin:W3.ownsRow base 43 6 (.slice (some ⟨w.heap.size,0,none⟩) (n+1) G) (n+1) (xs.take (i*6)++ys++xs.drop (i*6)):=by
  refine⟨by simp;omega,.inr ⟨_,G,L2.toArray,rfl,hbw,?_,hGn,hG63,?_,?_⟩⟩
  ·rw[hW3];exact hN2.drew.setRow_ _
  ·rw[List.size_toArray];omega
  ·rw[hL2,hL1,hL0]
   exact zdF hi hxl hy (by omega)
 have hbf:yi (fun i=>some i=some g) w W3:=by rw[hW3];exact yi.of_below (below_setRow hb2.drew (Nat.le_refl _) _) _
 have hw1:IntKind.i64.wrap ((i:Int)+1)=(i:Int)+1:=by rw[IntKind.wrap_i64];omega
 have hw2:IntKind.i64.wrap ((n:Int)+1)=(n:Int)+1:=by rw[IntKind.wrap_i64];omega
 have hz2: ¬((i:Int)=(n:Int)):=by omega
 have hc2: ¬(G=i+1):=by clear hw1 hw2;omega
 have hc4: ¬(G=i):=by clear hw1 hw2;omega
 have hc5: ¬(n=i):=by omega
 have hb1':(0:Int)≤(i:Int)+1:=by omega
 have hb3:(i:Int)≤(n:Int):=by omega
 have hin:i≤n:=by omega
 have Hfin:=Lib.hid hfin
 clear hfin hL2 hL1 hL0 hl2 hl1 hl0 hW3 hW2 hW1 hkk hik hZl hcw
 go_enter Tryz.func323,Tryz.ntmps323
 go_wp2_with ((with_reducible refine YR hrz ?a1 ?a2 ?_);(case a1=>rfl);(case a2=>rfl))
 go_region_law (refine jt rfl rfl (fun ty=>hcpB ty _ _) (by simp[Act.eval,Act.put]) (by simp[Act.eval,Act.put]) ?_)
 go_wp2
 go_ret
 exact⟨_,rfl,Hfin.out,hbf,fun b hb=>.inr (by have hb:some w.heap.size=some b:=hb;injection hb with hb;omega)⟩
theorem zlL (w:World) (base:Nat) (A:Option Addr) (n c i vb:Nat) (xs ys:List Value) (hown:w.ownsRow base 43 6 (.slice A n c) n xs) (hbase:base≤w.heap.size) (hi:i≤n) (hn:n≤1000000000000)
  (lc:Nat) (lit:List Value) (hv:Blk w vb 43 lit.toArray) (hlk: ∀(j:Nat) u,ys[j]? =some u→lit[j]? =some u) (hy:ys.length=6) (hne: ∀ad,A=some ad→vb≠ad.block) (h1: ∀u∈ys,u.oneCell'=true) (h1x: ∀u∈xs,u.oneCell'=true):
  Calls Tryz.prog 323 #[.slice A n c,.int .i64 i,.slice (some ⟨vb,0,none⟩) 1 lc] w fun e w'=>
   ∃v,e= .returned v∧w'.ownsRow base 43 6 v (n+1) (xs.take (i*6)++ys++xs.drop (i*6))∧yi (fun i=>some i=(Value.slice A n c).ownBlock) w w'∧(∀b,v.ownBlock=some b→some b=(Value.slice A n c).ownBlock∨w.heap.size≤b):=by
 rcases Nat.lt_or_ge i n with hlt|hge
 ·rcases hown.2 with⟨_,h⟩|⟨g,cap,cur,e,hb,hg,hnc,hcm,hcs,hx⟩
  ·omega
  ·injection e with e1 e2 e3
   subst e1
   subst e3
   rcases Nat.lt_or_ge n c with hr|hr
   ·exact zgI w base g n c i vb cur.toList xs ys hb (by simpa[Blk]using hg) (by simpa using hcs) hx hlt hr (by unfold maxLen at hcm;omega) hn lc lit hv hlk hy (hne _ rfl) h1 h1x
   ·obtain rfl:c=n:=by omega
    have hcx:cur=xs.toArray:=by
     apply Array.ext'
     rw[←hx]
     simp only
     rw[List.take_of_length_le (by simp;omega)]
    subst hcx
    exact zi5 w base g c i vb xs ys hb hg (by simpa using hcs) hlt hn lc lit hv hlk hy h1 h1x
 ·obtain rfl:i=n:=by omega
  have hxl:=hown.1
  rw[List.take_of_length_le (by omega),List.drop_of_length_le (by omega),List.append_nil]
  exact zmm w base A i c vb xs ys hown hbase hn lc lit hv hlk hy h1
theorem zzH (rows:List (List F)) (r:List F) (i:Nat) (hi:i≤rows.length) (hn:rows.length≤1000000000000):zA Tryz.prog 323 [.c (.o 0),.c (.f (.s (.int .i64 i))),.c (.o 1)] [] [(0,43,6,rows),(1,43,6,[r])] (.c (.o 0)) [] [(0,43,6,rows.take i++[r]++rows.drop i),(1,43,6,[r])]:=
 zdM ⟨_,Tryz.func323,by kernel_rfl,by kernel_rfl⟩ (fun w A n c i vb xs ys h1 h2 h3 lc lit h4 h5 h6 h7 h8 h9=>zlL w 0 A n c i vb xs ys h1 (Nat.zero_le _) h2 h3 lc lit h4 h5 h6 h7 h8 h9) rows r i hi hn
set_option maxRecDepth 100000 in
set_option maxHeartbeats 4000000 in
theorem zkU (w:World) (base:Nat) (A:Option Addr) (n c i:Nat) (xs:List Value) (hown:w.ownsRow base 43 6 (.slice A n c) n xs) (hi:i<n) (hn:n≤1000000000000) (h1x: ∀u∈xs,u.oneCell'=true):
  Calls Tryz.prog 300 #[.slice A n c,.int .i64 i,.int .i64 ((i:Int)+1)] w fun e w'=>
   ∃v,e= .returned v∧w'.ownsRow base 43 6 v (n - 1) (xs.take (i*6)++xs.drop ((i+1)*6))∧yi (fun i=>some i=(Value.slice A n c).ownBlock) w w'∧(∀b,v.ownBlock=some b→some b=(Value.slice A n c).ownBlock∨w.heap.size≤b):=by
 rcases hown.2 with⟨_,h⟩|⟨g,cap,cur',e,hb,hg',hnc,hcm,hcs',hx⟩
 ·omega
 injection e with e1 e2 e3
 subst e1
 subst e3
 obtain⟨cur,hcc⟩: ∃cur:List Value,cur'.toList=cur:=⟨_,rfl⟩
 have hg:Blk w g 43 cur.toArray:=by subst hcc;simpa[Blk]using hg'
 have hcs:cur.length=c*6:=by subst hcc;simpa using hcs'
 rw[hcc]at hx
 clear hg' hcs' hcc
 unfold maxLen at hcm
 have hxl:xs.length=n*6:=hown.1
 obtain⟨i0,hi0,hz0,hzs,hzb⟩:=zkz
 have hap: ∀ty ad cc,(ad=⟨g,(i+1)*6,none⟩∨c=i+1)→(Builtin.append_ #[24,24] ty #[.slice (some ⟨g,0,none⟩) i c,.slice (some ad) (n - (i+1)) cc]).run Tryz.prog w.drew=
   .ok (.slice (some ⟨g,0,none⟩) (n - 1) c) (w.drew.setRow g (yu cur (i*6) (xs.drop ((i+1)*6))).toArray):=fun ty ad cc had=>by
  have hl:(xs.drop ((i+1)*6)).length=(n - (i+1))*i0.size:=by rw[List.length_drop,hxl,hzs];omega
  have h:=run_append_room (P:=Tryz.prog) w.drew 24 ty 43 i0 YM hi0 g i c cur.toArray hg.drew ad (n - (i+1)) cc (xs.drop ((i+1)*6)) hl (fun j u hj=>by
   rcases had with rfl|rfl
   ·rw[z6,hg.drew.cell]
    rw[List.getElem?_drop,←hx,List.getElem?_take]at hj
    split at hj
    ·simpa using hj
    ·cases hj
   ·have:xs.drop ((i+1)*6)=[]:=List.drop_of_length_le (by omega)
    rw[this]at hj
    simp at hj) (fun v hv=>h1x v (List.mem_of_mem_drop hv)) (by omega) (by rw[hl,hzs,List.size_toArray,hcs];omega)
  rw[h,hzs,show i+(n - (i+1))=n - 1 by omega]
  rfl
 obtain⟨L1,hL1⟩: ∃L1,L1=yu cur (i*6) (xs.drop ((i+1)*6)):=⟨_,rfl⟩
 have hl1:L1.length=cur.length:=by rw[hL1];exact qq (by rw[List.length_drop];omega)
 rw[←hL1]at hap
 obtain⟨W1,hW1⟩: ∃W1,W1=w.drew.setRow g L1.toArray:=⟨_,rfl⟩
 rw[←hW1]at hap
 have hg1:Blk W1 g 43 L1.toArray:=by rw[hW1];exact hg.drew.setRow_ _
 have hb1:yi (fun i=>some i=some g) w W1:=by rw[hW1];exact(yi.refl (fun i=>some i=some g) w).drew.setRow (fun _=>rfl) _
 have hzv: ∀W,(zeroValue 43).run Tryz.prog W= .ok (.agg #[.int .i64 0,.int .i64 0,.int .i64 0,.slice none 0 0,.bool false,.int .i64 0]) W:=fun W=>by kernel_rfl
 have hclr: ∀ty cc,(Builtin.clear_ #[24] ty #[.slice (some ⟨g,(n - 1)*6,none⟩) (n - (n - 1)) cc]).run Tryz.prog W1=_:=fun ty cc=>
  YO 24 43 ty _ YM hzv (k:=6) rfl (by omega) (by simp[Value.cells,Value.oneCell']) g ((n - 1)*6) (n - (n - 1)) cc hg1 (by omega) (by omega)
 obtain⟨Z,hZ,hZl⟩: ∃Z:List Value,Z=(Builtin.zeroCells (Value.agg #[.int .i64 0,.int .i64 0,.int .i64 0,.slice none 0 0,.bool false,.int .i64 0]).cells (n - (n - 1))).toList∧Z.length=6:=⟨_,rfl,by rw[Array.length_toList,yf,show n - (n - 1)=1 by omega];rfl⟩
 rw[←hZ]at hclr
 have hfin:(W1.setRow g (yu L1 ((n - 1)*6) Z).toArray).ownsRow base 43 6 (.slice (some ⟨g,0,none⟩) (n - 1) c) (n - 1) (xs.take (i*6)++xs.drop ((i+1)*6)):=by
  refine⟨by simp;omega,.inr ⟨g,c,_,rfl,hb,hg1.setRow_ _,by omega,by unfold maxLen;omega,?_,?_⟩⟩
  ·rw[List.size_toArray,qq (by omega)];omega
  ·rw[hL1]
   exact zfB hi hcs hnc hx
 have hbf:yi (fun i=>some i=some g) w (W1.setRow g (yu L1 ((n - 1)*6) Z).toArray):=hb1.setRow (fun _=>rfl) _
 have Hfin:=Lib.hid hfin
 have hw1: ¬((i:Int)=(i:Int)+1):=by omega
 have hin:i≤c:=by omega
 have hi0p:(0:Int)≤(i:Int)+1:=by omega
 have hin2:(i:Int)+1≤(n:Int):=by omega
 have hin3:(i:Int)≤(i:Int)+1:=by omega
 have hin4:(n:Int)≤(c:Int):=by omega
 have hb4: ¬(c=n - 1):=by omega
 have Hap:=Lib.hid hap
 have Hclr:=Lib.hid hclr
 clear hcs hx hl1 hL1 hW1 hfin hZ hZl hclr hap hown hg hg1
 have hcl2: ∀cc,(Builtin.clear_ #[24] 0 #[.slice (some ⟨g,(n - 1)*6,none⟩) (n - (n - 1)) cc]).run Tryz.prog W1= .ok (.tuple #[]) (W1.setRow g (yu L1 ((n - 1)*6) Z).toArray):=fun cc=>Hclr.out 0 cc
 by_cases hc1:c=i+1
 ·have hn1:n=i+1:=by omega
  have hc1':(c:Int)=(i:Int)+1:=by omega
  have hcl1:=hcl2 1
  rw[show n - (n - 1)=1 by omega,show(n - 1)*6=i*6 by omega]at hcl1
  rw[show(n - 1)*6=i*6 by omega]at Hfin hbf
  clear hcl2
  go_enter Tryz.func300,Tryz.ntmps300
  go_wp2_with fail
  go_region_law (refine yK rfl rfl (fun ty=>Hap.out ty ⟨g,0,none⟩ 0 (.inr hc1)) (by simp[Act.eval,Act.put,hc1]) (by simp[Act.eval,Act.put,hn1]) ?_)
  go_wp2
  go_ret
  have h:=Hfin.out
  rw[show n - 1=i by omega,hc1]at h
  exact⟨_,rfl,by rw[show n - 1=i by omega];exact h,hbf,fun b hb=>.inl hb.symm⟩
 ·go_enter Tryz.func300,Tryz.ntmps300
  go_wp2_with fail
  go_region_law (refine yK rfl rfl (fun ty=>Hap.out ty ⟨g,(i+1)*6,none⟩ (c - (i+1)) (.inl rfl)) (by simp[Act.eval,Act.put]) (by simp[Act.eval,Act.put]) ?_)
  go_wp2
  go_ret
  exact⟨_,rfl,Hfin.out,hbf,fun b hb=>.inl hb.symm⟩
theorem zzT (rows:List (List F)) (i:Nat) (j:Int) (hj:j=(i:Int)+1) (hi:i<rows.length) (hn:rows.length≤1000000000000):zA Tryz.prog 300 [.c (.o 0),.c (.f (.s (.int .i64 i))),.c (.f (.s (.int .i64 j)))] [] [(0,43,6,rows)] (.c (.o 0)) [] [(0,43,6,rows.take i++rows.drop (i+1))]:=
 zdb ⟨_,Tryz.func300,by kernel_rfl,by kernel_rfl⟩ (fun w A n c i xs h1 h2 h3 h4=>zkU w 0 A n c i xs h1 h2 h3 h4) rows i j hj hi hn
theorem zCv:Inf Tryz.prog 3 (Value.int .i64 0) 1 8:=Inf.of (by kernel_rfl)
theorem zrK:Tryz.prog.underlying 22=some (.slice 3):=by kernel_rfl
set_option maxRecDepth 100000 in
set_option maxHeartbeats 4000000 in
theorem zkD (w:World) (base:Nat) (A:Option Addr) (n c i:Nat) (xs:List Value) (hown:w.ownsRow base 3 1 (.slice A n c) n xs) (hi:i<n) (hn:n≤1000000000000) (h1x: ∀u∈xs,u.oneCell'=true):
  Calls Tryz.prog 231 #[.slice A n c,.int .i64 i,.int .i64 ((i:Int)+1)] w fun e w'=>
   ∃v,e= .returned v∧w'.ownsRow base 3 1 v (n - 1) (xs.take (i*1)++xs.drop ((i+1)*1))∧yi (fun i=>some i=(Value.slice A n c).ownBlock) w w'∧(∀b,v.ownBlock=some b→some b=(Value.slice A n c).ownBlock∨w.heap.size≤b):=by
 rcases hown.2 with⟨_,h⟩|⟨g,cap,cur',e,hb,hg',hnc,hcm,hcs',hx⟩
 ·omega
 injection e with e1 e2 e3
 subst e1
 subst e3
 obtain⟨cur,hcc⟩: ∃cur:List Value,cur'.toList=cur:=⟨_,rfl⟩
 have hg:Blk w g 3 cur.toArray:=by subst hcc;simpa[Blk]using hg'
 have hcs:cur.length=c*1:=by subst hcc;simpa using hcs'
 rw[hcc]at hx
 clear hg' hcs' hcc
 unfold maxLen at hcm
 have hxl:xs.length=n*1:=hown.1
 obtain⟨i0,hi0,hz0,hzs,hzb⟩:=zCv
 have hap: ∀ty ad cc,(ad=⟨g,(i+1)*1,none⟩∨c=i+1)→(Builtin.append_ #[22,22] ty #[.slice (some ⟨g,0,none⟩) i c,.slice (some ad) (n - (i+1)) cc]).run Tryz.prog w.drew=
   .ok (.slice (some ⟨g,0,none⟩) (n - 1) c) (w.drew.setRow g (yu cur (i*1) (xs.drop ((i+1)*1))).toArray):=fun ty ad cc had=>by
  have hl:(xs.drop ((i+1)*1)).length=(n - (i+1))*i0.size:=by rw[List.length_drop,hxl,hzs];omega
  have h:=run_append_room (P:=Tryz.prog) w.drew 22 ty 3 i0 zrK hi0 g i c cur.toArray hg.drew ad (n - (i+1)) cc (xs.drop ((i+1)*1)) hl (fun j u hj=>by
   rcases had with rfl|rfl
   ·rw[z6,hg.drew.cell]
    rw[List.getElem?_drop,←hx,List.getElem?_take]at hj
    split at hj
    ·simpa using hj
    ·cases hj
   ·have:xs.drop ((i+1)*1)=[]:=List.drop_of_length_le (by omega)
    rw[this]at hj
    simp at hj) (fun v hv=>h1x v (List.mem_of_mem_drop hv)) (by omega) (by rw[hl,hzs,List.size_toArray,hcs];omega)
  rw[h,hzs,show i+(n - (i+1))=n - 1 by omega]
  rfl
 obtain⟨L1,hL1⟩: ∃L1,L1=yu cur (i*1) (xs.drop ((i+1)*1)):=⟨_,rfl⟩
 have hl1:L1.length=cur.length:=by rw[hL1];exact qq (by rw[List.length_drop];omega)
 rw[←hL1]at hap
 obtain⟨W1,hW1⟩: ∃W1,W1=w.drew.setRow g L1.toArray:=⟨_,rfl⟩
 rw[←hW1]at hap
 have hg1:Blk W1 g 3 L1.toArray:=by rw[hW1];exact hg.drew.setRow_ _
 have hb1:yi (fun i=>some i=some g) w W1:=by rw[hW1];exact(yi.refl (fun i=>some i=some g) w).drew.setRow (fun _=>rfl) _
 have hzv: ∀W,(zeroValue 3).run Tryz.prog W= .ok (Value.int .i64 0) W:=fun W=>by kernel_rfl
 have hclr: ∀ty cc,(Builtin.clear_ #[22] ty #[.slice (some ⟨g,(n - 1)*1,none⟩) (n - (n - 1)) cc]).run Tryz.prog W1=_:=fun ty cc=>
  YO 22 3 ty _ zrK hzv (k:=1) rfl (by omega) (by simp[Value.cells,Value.oneCell']) g ((n - 1)*1) (n - (n - 1)) cc hg1 (by omega) (by omega)
 obtain⟨Z,hZ,hZl⟩: ∃Z:List Value,Z=(Builtin.zeroCells (Value.int .i64 0).cells (n - (n - 1))).toList∧Z.length=1:=⟨_,rfl,by rw[Array.length_toList,yf,show n - (n - 1)=1 by omega];rfl⟩
 rw[←hZ]at hclr
 have hfin:(W1.setRow g (yu L1 ((n - 1)*1) Z).toArray).ownsRow base 3 1 (.slice (some ⟨g,0,none⟩) (n - 1) c) (n - 1) (xs.take (i*1)++xs.drop ((i+1)*1)):=by
  refine⟨by simp;omega,.inr ⟨g,c,_,rfl,hb,hg1.setRow_ _,by omega,by unfold maxLen;omega,?_,?_⟩⟩
  ·rw[List.size_toArray,qq (by omega)];omega
  ·rw[hL1]
   exact zfB hi hcs hnc hx
 have hbf:yi (fun i=>some i=some g) w (W1.setRow g (yu L1 ((n - 1)*1) Z).toArray):=hb1.setRow (fun _=>rfl) _
 have Hfin:=Lib.hid hfin
 have hw1: ¬((i:Int)=(i:Int)+1):=by omega
 have hin:i≤c:=by omega
 have hi0p:(0:Int)≤(i:Int)+1:=by omega
 have hin2:(i:Int)+1≤(n:Int):=by omega
 have hin3:(i:Int)≤(i:Int)+1:=by omega
 have hin4:(n:Int)≤(c:Int):=by omega
 have hb4: ¬(c=n - 1):=by omega
 have Hap:=Lib.hid hap
 have Hclr:=Lib.hid hclr
 clear hcs hx hl1 hL1 hW1 hfin hZ hZl hclr hap hown hg hg1
 have hcl2: ∀cc,(Builtin.clear_ #[22] 0 #[.slice (some ⟨g,(n - 1)*1,none⟩) (n - (n - 1)) cc]).run Tryz.prog W1= .ok (.tuple #[]) (W1.setRow g (yu L1 ((n - 1)*1) Z).toArray):=fun cc=>Hclr.out 0 cc
 simp only[Nat.mul_one]at hcl2 hbf
 have Hap2:=Lib.hid (by simpa only[Nat.mul_one]using Hap.out)
 have Hfin2:=Lib.hid (by simpa only[Nat.mul_one]using Hfin.out)
 clear Hap Hfin
 by_cases hc1:c=i+1
 ·have hn1:n=i+1:=by omega
  have hc1':(c:Int)=(i:Int)+1:=by omega
  have hcl1:=hcl2 1
  rw[show n - (n - 1)=1 by omega,show n - 1=i by omega]at hcl1
  rw[show n - 1=i by omega]at hbf
  have hq:=Hfin2.out
  rw[show n - 1=i by omega]at hq
  clear Hfin2
  have Hfin2:=Lib.hid hq
  clear hq
  clear hcl2
  go_enter Tryz.func231,Tryz.ntmps231
  go_wp2_with fail
  go_region_law (refine yK rfl rfl (fun ty=>Hap2.out ty ⟨g,0,none⟩ 0 (.inr hc1)) (by simp[Act.eval,Act.put,hc1]) (by simp[Act.eval,Act.put,hn1]) ?_)
  go_wp2
  go_ret
  have h:=Hfin2.out
  rw[hc1]at h
  exact⟨_,rfl,by rw[show n - 1=i by omega];simp only[Nat.mul_one];exact h,hbf,fun b hb=>.inl hb.symm⟩
 ·go_enter Tryz.func231,Tryz.ntmps231
  go_wp2_with fail
  go_region_law (refine yK rfl rfl (fun ty=>Hap2.out ty ⟨g,i+1,none⟩ (c - (i+1)) (.inl rfl)) (by simp[Act.eval,Act.put]) (by simp[Act.eval,Act.put]) ?_)
  go_wp2
  go_ret
  exact⟨_,rfl,by simp only[Nat.mul_one];exact Hfin2.out,hbf,fun b hb=>.inl hb.symm⟩
theorem zz4 (rows:List (List F)) (i:Nat) (j:Int) (hj:j=(i:Int)+1) (hi:i<rows.length) (hn:rows.length≤1000000000000):zA Tryz.prog 231 [.c (.o 0),.c (.f (.s (.int .i64 i))),.c (.f (.s (.int .i64 j)))] [] [(0,3,1,rows)] (.c (.o 0)) [] [(0,3,1,rows.take i++rows.drop (i+1))]:=
 zdb ⟨_,Tryz.func231,by kernel_rfl,by kernel_rfl⟩ (fun w A n c i xs h1 h2 h3 h4=>zkD w 0 A n c i xs h1 h2 h3 h4) rows i j hj hi hn
end Go.Proofs.YtbcbnfiedgnfpaaGreat
