import Derived.Test.YtbcbnfiedgnfpaaGreatZ18
set_option linter.unusedSimpArgs false
set_option linter.unusedVariables false
set_option maxRecDepth 100000
set_option maxHeartbeats 2000000
namespace Go.Proofs.YtbcbnfiedgnfpaaGreat
open Go.RowKit Go.Shelf Go.Ed Go.Dl
theorem zkx:Inf Tryz.prog 105 (.agg #[.string ⟨#[]⟩,.int .i64 0,.int .i64 0,.int .i64 0]) 4 40:=Inf.of (by kernel_rfl)
theorem YP:Tryz.prog.underlying 41=some (.slice 105):=by kernel_rfl
set_option maxRecDepth 100000 in
set_option maxHeartbeats 4000000 in
theorem zlC (w:World) (base:Nat) (A:Option Addr) (n c vb:Nat) (xs ys:List Value) (hown:w.ownsRow base 105 4 (.slice A n c) n xs) (hbase:base≤w.heap.size) (hn:n≤1000000000000)
  (lc:Nat) (lit:List Value) (hv:Blk w vb 105 lit.toArray) (hlk: ∀(j:Nat) u,ys[j]? =some u→lit[j]? =some u) (hy:ys.length=4) (h1: ∀u∈ys,u.oneCell'=true):
  Calls Tryz.prog 336 #[.slice A n c,.int .i64 n,.slice (some ⟨vb,0,none⟩) 1 lc] w fun e w'=>
   ∃v,e= .returned v∧w'.ownsRow base 105 4 v (n+1) (xs++ys)∧yi (fun i=>some i=(Value.slice A n c).ownBlock) w w'∧(∀b,v.ownBlock=some b→some b=(Value.slice A n c).ownBlock∨w.heap.size≤b):=by
 have hr:Reads w w.heap.size 4 (some ⟨vb,0,none⟩) 1 ys:=Reads.of_blk hv (by omega) (fun j u h=>by simpa using hlk j u h)
 have hnc:n≤c:=by
  obtain⟨A',c',e,hc,_⟩:=Z8 hown
  injection e with _ _ e
  omega
 have hnn:A=none→n=0:=by
  rintro rfl
  rcases hown.2 with⟨_,h⟩|⟨g,cap,cur,h,_⟩
  ·exact h
  ·cases h
 cases A with
 |none=>
  obtain rfl:=hnn rfl
  go_enter Tryz.func336,Tryz.ntmps336
  go_wp2_with ((with_reducible refine jZ (c:=lc) YP zkx hown hr h1 ?a0 ?a1 ?a2 ?a3 ?a4 ?a5 ?a6 ?_);(case a0=>exact hbase);(case a1=>rfl);(case a2=>rfl);(case a3=>rfl);(case a4=>omega);(case a5=>unfold maxLen;omega);(case a6=>omega);rintro v w2 h1 - h2 h3;replace h3:=QV h3)
  go_ret
  exact⟨_,rfl,h1,yi.of_grown h2 (fun i e=>e),h3⟩
 | some ad=>
  go_enter Tryz.func336,Tryz.ntmps336
  go_wp2_with ((with_reducible refine jZ (c:=lc) YP zkx hown hr h1 ?a0 ?a1 ?a2 ?a3 ?a4 ?a5 ?a6 ?_);(case a0=>exact hbase);(case a1=>rfl);(case a2=>rfl);(case a3=>rfl);(case a4=>omega);(case a5=>unfold maxLen;omega);(case a6=>omega);rintro v w2 h1 - h2 h3;replace h3:=QV h3)
  all_goals
   go_ret
   exact⟨_,rfl,h1,yi.of_grown h2 (fun i e=>e),h3⟩
set_option maxRecDepth 100000 in
set_option maxHeartbeats 4000000 in
theorem zgJ (w:World) (base g n c i vb:Nat) (cur xs ys:List Value) (hb:base≤g) (hg:Blk w g 105 cur.toArray) (hcur:cur.length=c*4) (hx:cur.take (n*4)=xs) (hi:i<n) (hc:n+1≤c) (hcm:c≤9223372036854775807) (hn:n≤1000000000000)
  (lc:Nat) (lit:List Value) (hv:Blk w vb 105 lit.toArray) (hlk: ∀(j:Nat) u,ys[j]? =some u→lit[j]? =some u) (hy:ys.length=4) (hne:vb≠g) (h1: ∀u∈ys,u.oneCell'=true) (h1x: ∀u∈xs,u.oneCell'=true):
  Calls Tryz.prog 336 #[.slice (some ⟨g,0,none⟩) n c,.int .i64 i,.slice (some ⟨vb,0,none⟩) 1 lc] w fun e w'=>
   ∃v,e= .returned v∧w'.ownsRow base 105 4 v (n+1) (xs.take (i*4)++ys++xs.drop (i*4))∧yi (fun i=>some i=some g) w w'∧(∀b,v.ownBlock=some b→some b=some g∨w.heap.size≤b):=by
 have hov: ∀lb cb,(callFunc 358 #[.slice (some ⟨vb,0,none⟩) 1 lc,.slice (some ⟨g,(i+1)*4,none⟩) lb cb]).run Tryz.prog w= .ok (.value (.bool false)) w:=fun lb cb=>by
  rw[run_callFunc_extern Tryz.func358 (by kernel_rfl) (by kernel_rfl) (by kernel_rfl) (e:=Extern.SlicesOverlaps.overlaps #[41,41] #[4]) (by kernel_rfl),
   Lib.run_overlaps_apart w 41 4 105 YP 4 (fun w'=>by kernel_rfl) ⟨vb,0,none⟩ ⟨g,(i+1)*4,none⟩ 1 lc lb cb hne _ _ _ _ (QT hv) (QT hg) (by rw[List.size_toArray];omega) (hv.frozen 0) (hv.frozen _)]
  rfl
 have hxl:xs.length=n*4:=by rw[←hx,List.length_take];omega
 have hcp1: ∀ty dc sc,(Builtin.copy_ #[41,41] ty #[.slice (some ⟨g,(i+1)*4,none⟩) (n - i) dc,.slice (some ⟨g,i*4,none⟩) (n+1 - i) sc]).run Tryz.prog w.drew=_:=fun ty dc sc=>
  yN (w:=w.drew) (k:=4) (m:=n - i) (cur:=cur) (news:=xs.drop (i*4)) YP zkx.size_ hg.drew (by omega) (by rw[List.length_drop];omega) (fun _=>⟨_,rfl,fun j v hj=>by
   rw[z6,hg.drew.cell]
   rw[List.getElem?_drop,←hx,List.getElem?_take]at hj
   split at hj
   ·simpa using hj
   ·cases hj⟩) (by omega) (fun v hv=>h1x v (List.mem_of_mem_drop hv))
 obtain⟨L1,hL1⟩: ∃L1,L1=yu cur ((i+1)*4) (xs.drop (i*4)):=⟨_,rfl⟩
 have hl1:L1.length=cur.length:=by rw[hL1];exact qq (by rw[List.length_drop];omega)
 rw[←hL1]at hcp1
 obtain⟨W1,hW1⟩: ∃W1,W1=w.drew.setRow g L1.toArray:=⟨_,rfl⟩
 rw[←hW1]at hcp1
 have hg1:Blk W1 g 105 L1.toArray:=by rw[hW1];exact hg.drew.setRow_ _
 have hv1:Blk W1 vb 105 lit.toArray:=by rw[hW1];exact hv.drew.setRow_far hne _
 have hb1:yi (fun i=>some i=some g) w W1:=by rw[hW1];exact(yi.refl (fun i=>some i=some g) w).drew.setRow (fun _=>rfl) _
 have hcp2: ∀ty dc,(Builtin.copy_ #[41,41] ty #[.slice (some ⟨g,i*4,none⟩) (n+1 - i) dc,.slice (some ⟨vb,0,none⟩) 1 lc]).run Tryz.prog W1=_:=fun ty dc=>
  yN (w:=W1) (k:=4) (m:=1) (cur:=L1) (news:=ys) YP zkx.size_ hg1 (by omega) (by omega) (fun _=>⟨_,rfl,fun j v hj=>by
   rw[z6,hv1.cell]
   simpa using hlk j v hj⟩) (by omega) h1
 have hw1:IntKind.i64.wrap ((i:Int)+1)=(i:Int)+1:=by rw[IntKind.wrap_i64];omega
 have hw2:IntKind.i64.wrap ((n:Int)+1)=(n:Int)+1:=by rw[IntKind.wrap_i64];omega
 have hz2: ¬((i:Int)=(n:Int)):=by omega
 have hb2: ¬(c=i+1):=by omega
 have hb4: ¬(c=i):=by omega
 have hb1':(0:Int)≤(i:Int)+1:=by omega
 have hb3:(i:Int)≤(n:Int)+1:=by omega
 have hin:i≤n:=by omega
 have hfin:((W1.setRow g (yu L1 (i*4) ys).toArray)).ownsRow base 105 4 (.slice (some ⟨g,0,none⟩) (n+1) c) (n+1) (xs.take (i*4)++ys++xs.drop (i*4)):=by
  refine⟨by simp;omega,.inr ⟨g,c,_,rfl,hb,hg1.setRow_ _,hc,by unfold maxLen;omega,?_,?_⟩⟩
  ·rw[List.size_toArray,qq (by omega)];omega
  ·rw[hL1]
   exact zbL hi hc hcur hx hy
 have hbf:yi (fun i=>some i=some g) w (W1.setRow g (yu L1 (i*4) ys).toArray):=hb1.setRow (fun _=>rfl) _
 have Hfin:=Lib.hid hfin
 clear hcur hx hl1 hL1 hW1 hfin
 go_enter Tryz.func336,Tryz.ntmps336
 go_wp2_with (simp only[hov])
 go_region_law (refine jt rfl rfl (fun ty=>hcp1 ty _ _) (by simp[Act.eval,Act.put]) (by simp[Act.eval,Act.put]) ?_)
 go_wp2
 go_ret
 exact⟨_,rfl,Hfin.out,hbf,fun b hb=>.inl hb.symm⟩
set_option maxRecDepth 100000 in
set_option maxHeartbeats 4000000 in
theorem zi0 (w:World) (base g n i vb:Nat) (xs ys:List Value) (hb:base≤g) (hg:Blk w g 105 xs.toArray) (hxl:xs.length=n*4) (hi:i<n) (hn:n≤1000000000000)
  (lc:Nat) (lit:List Value) (hv:Blk w vb 105 lit.toArray) (hlk: ∀(j:Nat) u,ys[j]? =some u→lit[j]? =some u) (hy:ys.length=4) (h1: ∀u∈ys,u.oneCell'=true) (h1x: ∀u∈xs,u.oneCell'=true):
  Calls Tryz.prog 336 #[.slice (some ⟨g,0,none⟩) n n,.int .i64 i,.slice (some ⟨vb,0,none⟩) 1 lc] w fun e w'=>
   ∃v,e= .returned v∧w'.ownsRow base 105 4 v (n+1) (xs.take (i*4)++ys++xs.drop (i*4))∧yi (fun i=>some i=some g) w w'∧(∀b,v.ownBlock=some b→some b=some g∨w.heap.size≤b):=by
 obtain⟨i0,hi0,hz0,hzs,hzb⟩:=zkx
 have hkk:(n:Int)+1 - (i:Int)=((n+1 - i:Nat):Int):=by omega
 have hik:i+(n+1 - i)=n+1:=by omega
 have hcw: ∀j v,(xs.take (i*4))[j]? =some v→w.cell? ((⟨g,0,none⟩:Addr).add j)=some v:=fun j v hj=>by
  rw[z6,Nat.zero_add,hg.cell]
  rw[List.getElem?_take]at hj
  split at hj
  ·simpa using hj
  ·cases hj
 have hold:(Builtin.firstCells i0.size i (.slice (some ⟨g,0,none⟩) i n)).run Tryz.prog w.drew= .ok (xs.take (i*4)).toArray w.drew:=by
  rw[hzs]
  exact run_firstCells_some w.drew 4 i _ i n _ (by rw[List.length_take];omega) hcw
 have hrz: ∀ty,(Builtin.append_ #[41,3] ty #[.slice (some ⟨g,0,none⟩) i n,.int .i64 ((n:Int)+1 - (i:Int))]).run Tryz.prog w=
   .ok (.slice (some ⟨w.heap.size,0,none⟩) (n+1) (grownCap w (n+1) n 105)) (w.drew.alloc (.cells ((xs.take (i*4)).toArray++Builtin.zeroCells (Value.agg #[.string ⟨#[]⟩,.int .i64 0,.int .i64 0,.int .i64 0]).cells (n+1 - i)++
    Builtin.zeroCells (Value.agg #[.string ⟨#[]⟩,.int .i64 0,.int .i64 0,.int .i64 0]).cells (grownCap w (n+1) n 105 - (n+1))) 105)):=fun ty=>by
  have h:=Lib.run_append_grow_zeros w 41 3 ty 105 i0 _ .i64 .i64 YP (by kernel_rfl) hi0 hz0 (some ⟨g,0,none⟩) i n (xs.take (i*4)) hold (n+1 - i) (by omega) (by omega) (by omega) (by omega) (by rw[hzb];omega) (by rw[hzb,hik];exact growslice_fits (by omega) (by omega))
  rw[hik]at h
  rw[hkk]
  exact h
 obtain⟨G,hG⟩: ∃G,G=grownCap w (n+1) n 105:=⟨_,rfl⟩
 rw[←hG]at hrz
 obtain⟨Z,hZ,hZl⟩: ∃Z:List Value,(xs.take (i*4)).toArray++Builtin.zeroCells (Value.agg #[.string ⟨#[]⟩,.int .i64 0,.int .i64 0,.int .i64 0]).cells (n+1 - i)++Builtin.zeroCells (Value.agg #[.string ⟨#[]⟩,.int .i64 0,.int .i64 0,.int .i64 0]).cells (G - (n+1))=(xs.take (i*4)++Z).toArray∧Z.length=(n+1 - i)*4+(G - (n+1))*4:=by
  refine⟨(Builtin.zeroCells (Value.agg #[.string ⟨#[]⟩,.int .i64 0,.int .i64 0,.int .i64 0]).cells (n+1 - i)++Builtin.zeroCells (Value.agg #[.string ⟨#[]⟩,.int .i64 0,.int .i64 0,.int .i64 0]).cells (G - (n+1))).toList,?_,?_⟩
  ·apply Array.ext'
   simp
  ·simp[yf,Value.cells]
 rw[hZ]at hrz
 clear hZ
 have hGn:n+1≤G:=by rw[hG];exact grownCap_ge w _ _ _
 have hG63:G≤maxLen:=by rw[hG];exact grownCap_le_maxLen w (n+1) n _ (by unfold maxLen;omega)
 clear hG hold hi0 hz0 hzs hzb i0
 obtain⟨L0,hL0⟩: ∃L0,L0=xs.take (i*4)++Z:=⟨_,rfl⟩
 have hl0:L0.length=G*4:=by rw[hL0,List.length_append,List.length_take,hZl];omega
 rw[←hL0]at hrz
 obtain⟨W1,hW1⟩: ∃W1,W1=w.drew.alloc (.cells L0.toArray 105):=⟨_,rfl⟩
 rw[←hW1]at hrz
 have hN:Blk W1 w.heap.size 105 L0.toArray:=by rw[hW1];exact Blk.new _ _ _
 have hg1:Blk W1 g 105 xs.toArray:=by rw[hW1];exact hg.drew.alloc _
 have hv1:Blk W1 vb 105 lit.toArray:=by rw[hW1];exact hv.drew.alloc _
 have hb1:Below w.heap.size w W1:=by rw[hW1];exact(Below.refl _ w).drew.alloc (Nat.le_refl _) _
 have hcpA: ∀ty dc,(Builtin.copy_ #[41,41] ty #[.slice (some ⟨w.heap.size,i*4,none⟩) (n+1 - i) dc,.slice (some ⟨vb,0,none⟩) 1 lc]).run Tryz.prog W1=_:=fun ty dc=>
  yN (w:=W1) (k:=4) (m:=1) (cur:=L0) (news:=ys) YP zkx.size_ hN (by omega) (by omega) (fun _=>⟨_,rfl,fun j v hj=>by
   rw[z6,hv1.cell]
   simpa using hlk j v hj⟩) (by omega) h1
 obtain⟨L1,hL1⟩: ∃L1,L1=yu L0 (i*4) ys:=⟨_,rfl⟩
 have hl1:L1.length=L0.length:=by rw[hL1];exact qq (by omega)
 rw[←hL1]at hcpA
 obtain⟨W2,hW2⟩: ∃W2,W2=W1.setRow w.heap.size L1.toArray:=⟨_,rfl⟩
 rw[←hW2]at hcpA
 have hN2:Blk W2 w.heap.size 105 L1.toArray:=by rw[hW2];exact hN.setRow_ _
 have hg2:Blk W2 g 105 xs.toArray:=by rw[hW2];exact hg1.setRow_far (by have:=hg.lt;omega) _
 have hb2:Below w.heap.size w W2:=by rw[hW2];exact below_setRow hb1 (Nat.le_refl _) _
 have hcpB: ∀ty dc sc,(Builtin.copy_ #[41,41] ty #[.slice (some ⟨w.heap.size,(i+1)*4,none⟩) (n - i) dc,.slice (some ⟨g,i*4,none⟩) (n - i) sc]).run Tryz.prog W2.drew=_:=fun ty dc sc=>
  yN (w:=W2.drew) (k:=4) (m:=n - i) (cur:=L1) (news:=xs.drop (i*4)) YP zkx.size_ hN2.drew (by omega) (by rw[List.length_drop];omega) (fun _=>⟨_,rfl,fun j v hj=>by
   rw[z6,hg2.drew.cell]
   rw[List.getElem?_drop]at hj
   simpa using hj⟩) (by omega) (fun v hv=>h1x v (List.mem_of_mem_drop hv))
 obtain⟨L2,hL2⟩: ∃L2,L2=yu L1 ((i+1)*4) (xs.drop (i*4)):=⟨_,rfl⟩
 have hl2:L2.length=L1.length:=by rw[hL2];exact qq (by rw[List.length_drop];omega)
 rw[←hL2]at hcpB
 obtain⟨W3,hW3⟩: ∃W3,W3=W2.drew.setRow w.heap.size L2.toArray:=⟨_,rfl⟩
 rw[←hW3]at hcpB
 have hbw:base≤w.heap.size:=by have:=hg.lt;omega
 have hfin:W3.ownsRow base 105 4 (.slice (some ⟨w.heap.size,0,none⟩) (n+1) G) (n+1) (xs.take (i*4)++ys++xs.drop (i*4)):=by
  refine⟨by simp;omega,.inr ⟨_,G,L2.toArray,rfl,hbw,?_,hGn,hG63,?_,?_⟩⟩
  ·rw[hW3];exact hN2.drew.setRow_ _
  ·rw[List.size_toArray];omega
  ·rw[hL2,hL1,hL0]
   exact zdF hi hxl hy (by omega)
 have hbf:yi (fun i=>some i=some g) w W3:=by rw[hW3];exact yi.of_below (below_setRow hb2.drew (Nat.le_refl _) _) _
 have hw1:IntKind.i64.wrap ((i:Int)+1)=(i:Int)+1:=by rw[IntKind.wrap_i64];omega
 have hw2:IntKind.i64.wrap ((n:Int)+1)=(n:Int)+1:=by rw[IntKind.wrap_i64];omega
 have hz2: ¬((i:Int)=(n:Int)):=by omega
 have hc2: ¬(G=i+1):=by clear hw1 hw2;omega
 have hc4: ¬(G=i):=by clear hw1 hw2;omega
 have hc5: ¬(n=i):=by omega
 have hb1':(0:Int)≤(i:Int)+1:=by omega
 have hb3:(i:Int)≤(n:Int):=by omega
 have hin:i≤n:=by omega
 have Hfin:=Lib.hid hfin
 clear hfin hL2 hL1 hL0 hl2 hl1 hl0 hW3 hW2 hW1 hkk hik hZl hcw
 go_enter Tryz.func336,Tryz.ntmps336
 go_wp2_with ((with_reducible refine YR hrz ?a1 ?a2 ?_);(case a1=>rfl);(case a2=>rfl))
 go_region_law (refine jt rfl rfl (fun ty=>hcpB ty _ _) (by simp[Act.eval,Act.put]) (by simp[Act.eval,Act.put]) ?_)
 go_wp2
 go_ret
 exact⟨_,rfl,Hfin.out,hbf,fun b hb=>.inr (by have hb:some w.heap.size=some b:=hb;injection hb with hb;omega)⟩
theorem zlf (w:World) (base:Nat) (A:Option Addr) (n c i vb:Nat) (xs ys:List Value) (hown:w.ownsRow base 105 4 (.slice A n c) n xs) (hbase:base≤w.heap.size) (hi:i≤n) (hn:n≤1000000000000)
  (lc:Nat) (lit:List Value) (hv:Blk w vb 105 lit.toArray) (hlk: ∀(j:Nat) u,ys[j]? =some u→lit[j]? =some u) (hy:ys.length=4) (hne: ∀ad,A=some ad→vb≠ad.block) (h1: ∀u∈ys,u.oneCell'=true) (h1x: ∀u∈xs,u.oneCell'=true):
  Calls Tryz.prog 336 #[.slice A n c,.int .i64 i,.slice (some ⟨vb,0,none⟩) 1 lc] w fun e w'=>
   ∃v,e= .returned v∧w'.ownsRow base 105 4 v (n+1) (xs.take (i*4)++ys++xs.drop (i*4))∧yi (fun i=>some i=(Value.slice A n c).ownBlock) w w'∧(∀b,v.ownBlock=some b→some b=(Value.slice A n c).ownBlock∨w.heap.size≤b):=by
 rcases Nat.lt_or_ge i n with hlt|hge
 ·rcases hown.2 with⟨_,h⟩|⟨g,cap,cur,e,hb,hg,hnc,hcm,hcs,hx⟩
  ·omega
  ·injection e with e1 e2 e3
   subst e1
   subst e3
   rcases Nat.lt_or_ge n c with hr|hr
   ·exact zgJ w base g n c i vb cur.toList xs ys hb (by simpa[Blk]using hg) (by simpa using hcs) hx hlt hr (by unfold maxLen at hcm;omega) hn lc lit hv hlk hy (hne _ rfl) h1 h1x
   ·obtain rfl:c=n:=by omega
    have hcx:cur=xs.toArray:=by
     apply Array.ext'
     rw[←hx]
     simp only
     rw[List.take_of_length_le (by simp;omega)]
    subst hcx
    exact zi0 w base g c i vb xs ys hb hg (by simpa using hcs) hlt hn lc lit hv hlk hy h1 h1x
 ·obtain rfl:i=n:=by omega
  have hxl:=hown.1
  rw[List.take_of_length_le (by omega),List.drop_of_length_le (by omega),List.append_nil]
  exact zlC w base A i c vb xs ys hown hbase hn lc lit hv hlk hy h1
theorem zz1 (rows:List (List F)) (r:List F) (i:Nat) (hi:i≤rows.length) (hn:rows.length≤1000000000000):zA Tryz.prog 336 [.c (.o 0),.c (.f (.s (.int .i64 i))),.c (.o 1)] [] [(0,105,4,rows),(1,105,4,[r])] (.c (.o 0)) [] [(0,105,4,rows.take i++[r]++rows.drop i),(1,105,4,[r])]:=
 zdM ⟨_,Tryz.func336,by kernel_rfl,by kernel_rfl⟩ (fun w A n c i vb xs ys h1 h2 h3 lc lit h4 h5 h6 h7 h8 h9=>zlf w 0 A n c i vb xs ys h1 (Nat.zero_le _) h2 h3 lc lit h4 h5 h6 h7 h8 h9) rows r i hi hn
set_option maxRecDepth 100000 in
set_option maxHeartbeats 4000000 in
theorem zlB (w:World) (base:Nat) (A:Option Addr) (n c i:Nat) (xs:List Value) (hown:w.ownsRow base 105 4 (.slice A n c) n xs) (hi:i<n) (hn:n≤1000000000000) (h1x: ∀u∈xs,u.oneCell'=true):
  Calls Tryz.prog 335 #[.slice A n c,.int .i64 i,.int .i64 ((i:Int)+1)] w fun e w'=>
   ∃v,e= .returned v∧w'.ownsRow base 105 4 v (n - 1) (xs.take (i*4)++xs.drop ((i+1)*4))∧yi (fun i=>some i=(Value.slice A n c).ownBlock) w w'∧(∀b,v.ownBlock=some b→some b=(Value.slice A n c).ownBlock∨w.heap.size≤b):=by
 rcases hown.2 with⟨_,h⟩|⟨g,cap,cur',e,hb,hg',hnc,hcm,hcs',hx⟩
 ·omega
 injection e with e1 e2 e3
 subst e1
 subst e3
 obtain⟨cur,hcc⟩: ∃cur:List Value,cur'.toList=cur:=⟨_,rfl⟩
 have hg:Blk w g 105 cur.toArray:=by subst hcc;simpa[Blk]using hg'
 have hcs:cur.length=c*4:=by subst hcc;simpa using hcs'
 rw[hcc]at hx
 clear hg' hcs' hcc
 unfold maxLen at hcm
 have hxl:xs.length=n*4:=hown.1
 obtain⟨i0,hi0,hz0,hzs,hzb⟩:=zkx
 have hap: ∀ty ad cc,(ad=⟨g,(i+1)*4,none⟩∨c=i+1)→(Builtin.append_ #[41,41] ty #[.slice (some ⟨g,0,none⟩) i c,.slice (some ad) (n - (i+1)) cc]).run Tryz.prog w.drew=
   .ok (.slice (some ⟨g,0,none⟩) (n - 1) c) (w.drew.setRow g (yu cur (i*4) (xs.drop ((i+1)*4))).toArray):=fun ty ad cc had=>by
  have hl:(xs.drop ((i+1)*4)).length=(n - (i+1))*i0.size:=by rw[List.length_drop,hxl,hzs];omega
  have h:=run_append_room (P:=Tryz.prog) w.drew 41 ty 105 i0 YP hi0 g i c cur.toArray hg.drew ad (n - (i+1)) cc (xs.drop ((i+1)*4)) hl (fun j u hj=>by
   rcases had with rfl|rfl
   ·rw[z6,hg.drew.cell]
    rw[List.getElem?_drop,←hx,List.getElem?_take]at hj
    split at hj
    ·simpa using hj
    ·cases hj
   ·have:xs.drop ((i+1)*4)=[]:=List.drop_of_length_le (by omega)
    rw[this]at hj
    simp at hj) (fun v hv=>h1x v (List.mem_of_mem_drop hv)) (by omega) (by rw[hl,hzs,List.size_toArray,hcs];omega)
  rw[h,hzs,show i+(n - (i+1))=n - 1 by omega]
  rfl
 obtain⟨L1,hL1⟩: ∃L1,L1=yu cur (i*4) (xs.drop ((i+1)*4)):=⟨_,rfl⟩
 have hl1:L1.length=cur.length:=by rw[hL1];exact qq (by rw[List.length_drop];omega)
 rw[←hL1]at hap
 obtain⟨W1,hW1⟩: ∃W1,W1=w.drew.setRow g L1.toArray:=⟨_,rfl⟩
 rw[←hW1]at hap
 have hg1:Blk W1 g 105 L1.toArray:=by rw[hW1];exact hg.drew.setRow_ _
 have hb1:yi (fun i=>some i=some g) w W1:=by rw[hW1];exact(yi.refl (fun i=>some i=some g) w).drew.setRow (fun _=>rfl) _
 have hzv: ∀W,(zeroValue 105).run Tryz.prog W= .ok (.agg #[.string ⟨#[]⟩,.int .i64 0,.int .i64 0,.int .i64 0]) W:=fun W=>by kernel_rfl
 have hclr: ∀ty cc,(Builtin.clear_ #[41] ty #[.slice (some ⟨g,(n - 1)*4,none⟩) (n - (n - 1)) cc]).run Tryz.prog W1=_:=fun ty cc=>
  YO 41 105 ty _ YP hzv (k:=4) rfl (by omega) (by simp[Value.cells,Value.oneCell']) g ((n - 1)*4) (n - (n - 1)) cc hg1 (by omega) (by omega)
 obtain⟨Z,hZ,hZl⟩: ∃Z:List Value,Z=(Builtin.zeroCells (Value.agg #[.string ⟨#[]⟩,.int .i64 0,.int .i64 0,.int .i64 0]).cells (n - (n - 1))).toList∧Z.length=4:=⟨_,rfl,by rw[Array.length_toList,yf,show n - (n - 1)=1 by omega];rfl⟩
 rw[←hZ]at hclr
 have hfin:(W1.setRow g (yu L1 ((n - 1)*4) Z).toArray).ownsRow base 105 4 (.slice (some ⟨g,0,none⟩) (n - 1) c) (n - 1) (xs.take (i*4)++xs.drop ((i+1)*4)):=by
  refine⟨by simp;omega,.inr ⟨g,c,_,rfl,hb,hg1.setRow_ _,by omega,by unfold maxLen;omega,?_,?_⟩⟩
  ·rw[List.size_toArray,qq (by omega)];omega
  ·rw[hL1]
   exact zfB hi hcs hnc hx
 have hbf:yi (fun i=>some i=some g) w (W1.setRow g (yu L1 ((n - 1)*4) Z).toArray):=hb1.setRow (fun _=>rfl) _
 have Hfin:=Lib.hid hfin
 have hw1: ¬((i:Int)=(i:Int)+1):=by omega
 have hin:i≤c:=by omega
 have hi0p:(0:Int)≤(i:Int)+1:=by omega
 have hin2:(i:Int)+1≤(n:Int):=by omega
 have hin3:(i:Int)≤(i:Int)+1:=by omega
 have hin4:(n:Int)≤(c:Int):=by omega
 have hb4: ¬(c=n - 1):=by omega
 have Hap:=Lib.hid hap
 have Hclr:=Lib.hid hclr
 clear hcs hx hl1 hL1 hW1 hfin hZ hZl hclr hap hown hg hg1
 have hcl2: ∀cc,(Builtin.clear_ #[41] 0 #[.slice (some ⟨g,(n - 1)*4,none⟩) (n - (n - 1)) cc]).run Tryz.prog W1= .ok (.tuple #[]) (W1.setRow g (yu L1 ((n - 1)*4) Z).toArray):=fun cc=>Hclr.out 0 cc
 by_cases hc1:c=i+1
 ·have hn1:n=i+1:=by omega
  have hc1':(c:Int)=(i:Int)+1:=by omega
  have hcl1:=hcl2 1
  rw[show n - (n - 1)=1 by omega,show(n - 1)*4=i*4 by omega]at hcl1
  rw[show(n - 1)*4=i*4 by omega]at Hfin hbf
  clear hcl2
  go_enter Tryz.func335,Tryz.ntmps335
  go_wp2_with fail
  go_region_law (refine yK rfl rfl (fun ty=>Hap.out ty ⟨g,0,none⟩ 0 (.inr hc1)) (by simp[Act.eval,Act.put,hc1]) (by simp[Act.eval,Act.put,hn1]) ?_)
  go_wp2
  go_ret
  have h:=Hfin.out
  rw[show n - 1=i by omega,hc1]at h
  exact⟨_,rfl,by rw[show n - 1=i by omega];exact h,hbf,fun b hb=>.inl hb.symm⟩
 ·go_enter Tryz.func335,Tryz.ntmps335
  go_wp2_with fail
  go_region_law (refine yK rfl rfl (fun ty=>Hap.out ty ⟨g,(i+1)*4,none⟩ (c - (i+1)) (.inl rfl)) (by simp[Act.eval,Act.put]) (by simp[Act.eval,Act.put]) ?_)
  go_wp2
  go_ret
  exact⟨_,rfl,Hfin.out,hbf,fun b hb=>.inl hb.symm⟩
theorem zy9 (rows:List (List F)) (i:Nat) (j:Int) (hj:j=(i:Int)+1) (hi:i<rows.length) (hn:rows.length≤1000000000000):zA Tryz.prog 335 [.c (.o 0),.c (.f (.s (.int .i64 i))),.c (.f (.s (.int .i64 j)))] [] [(0,105,4,rows)] (.c (.o 0)) [] [(0,105,4,rows.take i++rows.drop (i+1))]:=
 zdb ⟨_,Tryz.func335,by kernel_rfl,by kernel_rfl⟩ (fun w A n c i xs h1 h2 h3 h4=>zlB w 0 A n c i xs h1 h2 h3 h4) rows i j hj hi hn
end Go.Proofs.YtbcbnfiedgnfpaaGreat
