import Derived.Test.YtbcbnfiedgnfpaaGreatZ34
import Derived.Test.YtbcbnfiedgnfpaaGreatZ36
set_option linter.unusedSimpArgs false
set_option linter.unusedVariables false
set_option maxRecDepth 100000
set_option maxHeartbeats 2000000
namespace Go.Proofs.YtbcbnfiedgnfpaaGreat
open Go.Dl
attribute [local irreducible] DW yE zY zA zu zky
attribute [local push_cast] zZ qF qC zN zM zD zE qH qE qz Go.Dl.qY yT qy List.mem_cons List.not_mem_nil or_false forall_eq false_implies implies_true
section
attribute [local simp] cv jS
abbrev rW (w:Wk):V:=.tup [(true,cNd w.n),(false,[.f (.l 8 (w.ps.map yG))]),(false,[.f (.l 4 (w.es.map zeq))])]
abbrev rWE (w:Wk×Int):V:=.tup [(true,cNd w.1.n),(false,[.f (.l 8 (w.1.ps.map yG))]),(false,[.f (.l 4 (w.1.es.map zeq))]),(false,[.f (eI w.2)])]
theorem zfz (n:zQ) (hF:zy n):zu Tryz.prog 55 [jv n] (rW (tickW n)):=by
 have hnk:=hF.nok
 obtain⟨w,hw⟩: ∃w,tickW n=w:=⟨_,rfl⟩
 have ht:=zvu n hF
 rw[hw]at ht ⊢
 refine enx [.cell 2 27,.tmp 3,.tmp 4] Tryz.func55 fun X w0=>?_
 repeat'(first|(refine spl ?_ ?_<;>(intro hb;refine ne ?_))|(refine zl hR ?_;clear hR)|refine s1 ?_|exact True.intro|refine cal (yL n hnk) ?_|(refine zB (zK 9 8 100 30 8 (by rfl) (by rfl) (by rfl)) ?_;refine zB (zK 9 9 101 38 4 (by rfl) (by rfl) (by rfl)) ?_;simp only[List.set_cons_succ,List.set_cons_zero])|refine cM [(0,9)] [(0,100),(1,101)] (ht) ?_|refine rdb [] ?_|refine rex [] ?_|(refine s2 ?_;try with_reducible intro R hR)|fail)
theorem zfa (n:zQ) (v:Int) (hF:zy n):zu Tryz.prog 23 [jv n,gI v] (rWE (zd0 n v)):=by
 have hnk:=hF.nok
 have hwl:=(zU.1 hF.want).2.1
 refine enx [.cell 4 27,.tmp 5,.tmp 6,.tmp 7] Tryz.func23 fun X w0=>?_
 repeat'(first|(refine spl ?_ ?_<;>(intro hb;refine ne ?_))|(refine zl hR ?_;clear hR)|refine s1 ?_|exact True.intro|refine cal (yL n hnk) ?_|refine cal (znE n.id n.want v (by omega)) ?_|refine rdb [] ?_|refine rex [] ?_|(refine s2 ?_;try with_reducible intro R hR)|fail)
 all_goals(simp only[zd0,zQ.waS,List.map_nil])
 all_goals(refine gz ?_;grind[JU])
theorem ziD (n:zQ) (v u2 u3:Int) (u1:List Int) (hF:zy n) (hU:ZI n.want n.tn v=(u1,u2,u3)) (h3:(u3==0)=false):zu Tryz.prog 98 [jv n,gI v] (rWE (⟨n,[],[]⟩,u3)):=by
 have hnk:=hF.nok
 have hwl:=(zU.1 hF.want).2.1
 refine enx [.cell 4 27,.tmp 5,.tmp 6,.tmp 7] Tryz.func98 fun X w0=>?_
 repeat'(first|(refine spl ?_ ?_<;>(intro hb;refine ne ?_))|(refine zl hR ?_;clear hR)|refine s1 ?_|exact True.intro|(exfalso;rw[bne,h3]at hb;exact absurd hb (by decide))|refine cal (yL n hnk) ?_|refine cal (JC n.want n.tn v (by omega)) ?_|refine rdb [] ?_|refine rex [] ?_|(refine s2 ?_;try with_reducible intro R hR)|fail)
 all_goals trace_state
theorem ziX (n:zQ) (v u2:Int) (u1:List Int) (h:Hf) (hF:zy n) (hv:I64 v) (hU:ZI n.want n.tn v=(u1,u2,0)) (hf:findH v n.hv=(h,false)):zu Tryz.prog 98 [jv n,gI v] (rWE (⟨⟨n.id,n.bt,n.tk,u1,u2,n.seen,n.hv,n.ch⟩,[],[]⟩,0)):=by
 have hnk:=hF.nok
 have hwl:=(zU.1 hF.want).2.1
 have hok:=hF.hok
 have hsr:=hF.srt
 have hrg:=hF.rng
 refine enx [.cell 4 27,.tmp 5,.tmp 6,.tmp 7] Tryz.func98 fun X w0=>?_
 repeat'(first|(refine spl ?_ ?_<;>(intro hb;refine ne ?_))|(refine zl hR ?_;clear hR)|refine s1 ?_|exact True.intro|refine cal (yL n hnk) ?_|refine cal (JC n.want n.tn v (by omega)) ?_|refine cal (jc n.hv v hok hsr hrg hv) ?_|(refine zB (zK 36 8 100 30 8 (by rfl) (by rfl) (by rfl)) ?_;refine zB (zK 36 9 101 38 4 (by rfl) (by rfl) (by rfl)) ?_;simp only[List.set_cons_succ,List.set_cons_zero])|refine rdb [] ?_|refine rex [] ?_|(refine s2 ?_;try with_reducible intro R hR)|fail)
 all_goals trace_state
theorem zjG (n:zQ) (v u2 q bo li:Int) (ls:List Ln) (pe:Bool) (mi:Int) (u1:List Int) (hF:zy n) (hv:I64 v) (hU:ZI n.want n.tn v=(u1,u2,0)) (hf:findH v n.hv=(⟨v,bo,li,ls,pe,mi⟩,true)) (hM:zy ⟨n.id,n.bt,n.tk,u1,u2,n.seen,n.hv,n.ch⟩) (w':Wk) (hw:w'=zbh ⟨⟨n.id,n.bt,n.tk,u1,u2,n.seen,n.hv,n.ch⟩,[jS n 5 v bo li []],[]⟩ v 3):zu Tryz.prog 98 [jv n,gI v] (rWE (w',0)):=by
 subst hw
 have hnk:=hF.nok
 have hwl:=(zU.1 hF.want).2.1
 have hok:=hF.hok
 have hsr:=hF.srt
 have hrg:=hF.rng
 refine enx [.cell 4 27,.tmp 5,.tmp 6,.tmp 7] Tryz.func98 fun X w0=>?_
 repeat'(first|(refine spl ?_ ?_<;>(intro hb;refine ne ?_))|(refine zl hR ?_;clear hR)|refine s1 ?_|exact True.intro|refine cal (yL n hnk) ?_|refine cal (JC n.want n.tn v (by omega)) ?_|refine cal (jc n.hv v hok hsr hrg hv) ?_|(refine zB (zK 36 8 100 30 8 (by rfl) (by rfl) (by rfl)) ?_;refine zB (zK 36 9 101 38 4 (by rfl) (by rfl) (by rfl)) ?_;simp only[List.set_cons_succ,List.set_cons_zero])|refine cM [(0,36)] [(0,100),(1,101)] (zc3 ⟨n.id,n.bt,n.tk,u1,u2,n.seen,n.hv,n.ch⟩ [] [] 5 ⟨v,bo,li,ls,pe,mi⟩ false false false hM) ?_|refine cM [(0,36)] [(0,100),(1,101)] (za8 ⟨n.id,n.bt,n.tk,u1,u2,n.seen,n.hv,n.ch⟩ [] [] ⟨5,n.id,v,n.bt,(getS n.seen v).tm,bo,li,[]⟩ false false false (by simp)) ?_|refine cM [(0,36)] [(0,100),(1,101)] (zeL ⟨n.id,n.bt,n.tk,u1,u2,n.seen,n.hv,n.ch⟩ [⟨5,n.id,v,n.bt,(getS n.seen v).tm,bo,li,[]⟩] [] v 3 false false false (by simp) hM hv) ?_|refine rdb [] ?_|refine rex [] ?_|(refine s2 ?_;try with_reducible intro R hR)|fail)
 all_goals(first|(simp[zbh,yU,jS,yG,zeq];done)|trace_state)
theorem ziG (n:zQ) (v:Int) (hF:zy n) (hv:I64 v):zu Tryz.prog 98 [jv n,gI v] (rWE (jz n v)):=by
 have hm:zy ((n.waS (ZI n.want n.tn v).1).tnS (ZI n.want n.tn v).2.1):=⟨hF.bt,hF.tk,Y2 hF.want,hF.seen,hF.hv,hF.ch⟩
 rcases hU:ZI n.want n.tn v with⟨u1,u2,u3⟩
 rw[hU]at hm
 by_cases h3:u3=0
 ·subst h3
  rcases hf:findH v n.hv with⟨h,held⟩
  cases held
  ·have e:jz n v=(⟨⟨n.id,n.bt,n.tk,u1,u2,n.seen,n.hv,n.ch⟩,[],[]⟩,0):=by unfold jz;rw[hU];simp only;rw[hf];rfl
   rw[e];exact ziX n v u2 u1 h hF hv hU hf
  ·have hp:hasP v n.hv=true:=by unfold hasP;rw[hf]
   have h2:=(hF.find hp).2.1
   rw[hf]at h2
   obtain⟨q,bo,li,ls,pe,mi⟩:=h
   simp only at h2
   subst h2
   have e:jz n q=(zbh ⟨⟨n.id,n.bt,n.tk,u1,u2,n.seen,n.hv,n.ch⟩,[jS n 5 q bo li []],[]⟩ q 3,0):=by unfold jz;rw[hU];simp only;rw[hf];rfl
   rw[e];exact zjG n q u2 q bo li ls pe mi u1 hF hv hU hf hm _ rfl
 ·have e:jz n v=(⟨n,[],[]⟩,u3):=by unfold jz;rw[hU];simp only;rw[if_pos h3]
  rw[e];exact ziD n v u2 u3 u1 hF hU (by simpa using h3)
end
section
attribute [local simp] cv jS
abbrev rNE (x:zQ×Int):V:=.tup [(true,cNd x.1),(false,[.f (eI x.2)])]
theorem zhx (n:zQ) (nm:ByteArray) (v:Int) (hF:zy n):zu Tryz.prog 26 [jv n,gS nm,gI v] (rNE (zer n nm v)):=by
 have hnk:=hF.nok
 have hcl:n.ch.length≤8:=(zH.1 hF.ch).2.2.1
 have hs:=zrN zyL n.ch n.id nm v (by omega) (zeQ hF.ch) (zbb hF.ch) (fun x hx h=>by
  have:=zh5 h
  simp only[flowB,Bool.and_eq_true,decide_eq_true_eq]at this
  unfold I62;omega)
 have hse:(QF n.id nm v n.ch).2≠0→(QF n.id nm v n.ch).1=n.ch:=by
  unfold QF
  split
  ·intro;rfl
  ·split
   ·intro h;exact absurd rfl h
   ·intro;rfl
 rcases hS:QF n.id nm v n.ch with⟨l,e⟩
 rw[hS]at hs hse
 have hS2:zer n nm v=(⟨n.id,n.bt,n.tk,n.want,n.tn,n.seen,n.hv,l⟩,e):=by unfold zer;rw[hS];rfl
 rw[hS2]
 replace hS:=Lib.hid hS;replace hS2:=Lib.hid hS2;simp only at hse;replace hse:=Lib.hid hse
 refine enx [.cell 6 27,.tmp 7] Tryz.func26 fun X w0=>?_
 repeat'(first|(refine spl ?_ ?_<;>(intro hb;refine ne ?_))|(refine zl hR ?_;clear hR)|refine s1 ?_|exact True.intro|refine cal (yL n hnk) ?_|refine cal (hs) ?_|refine rdb [] ?_|refine rex [] ?_|(refine s2 ?_;try with_reducible intro R hR)|fail)
 have h2:l=n.ch:=hse (by simpa using hb)
 simp[h2]
theorem zdJ (nm:ByteArray): ∀(a b:List Tt) (w:Wk),madeL w nm (a++b)=madeL (madeL w nm a) nm b
 |[],b,w=>rfl
 |x::a,b,w=>by
  rw[List.cons_append,madeL,madeL]
  split
  ·exact zdJ nm a b _
  ·exact zdJ nm a b _
theorem zcx {w:Wk} {nm:ByteArray} {l:List Tt} {k:Nat} (h:k<l.length):madeL w nm (l.take (k+1))=(if l[k].c.nm.toList==nm.toList then jA (madeL w nm (l.take k)) l[k].c else madeL w nm (l.take k)):=by
 rw[qJ h,zdJ,madeL]
 split<;>rfl
attribute [local simp] jA
theorem zmO (n:zQ) (l:List Tt) (nm:ByteArray) (e:Int) (hF:zy n) (h3:(e==0)=false):zu Tryz.prog 72 [jv n,j8 l,gS nm,gI e] (rWE (⟨n,[],[]⟩,e)):=by
 have hnk:=hF.nok
 refine enx [.cell 8 27,.tmp 9,.tmp 10,.tmp 11] Tryz.func72 fun X w0=>?_
 repeat'(first|(refine spl ?_ ?_<;>(intro hb;refine ne ?_))|(refine zl hR ?_;clear hR)|refine s1 ?_|exact True.intro|(exfalso;rw[bne,h3]at hb;exact absurd hb (by decide))|refine cal (yL n hnk) ?_|refine rdb [] ?_|refine rex [] ?_|(with_reducible refine zW ?_;exfalso;rw[bne,h3]at hb;exact absurd hb (by decide))|(refine s2 ?_;try with_reducible intro R hR)|fail)
 all_goals trace_state
theorem zn5 (n:zQ) (l:List Tt) (nm:ByteArray) (hF:zy n) (hL:zy ⟨n.id,n.bt,n.tk,n.want,n.tn,n.seen,n.hv,l⟩) (hl8:l.length≤8) (m w':Wk) (hm:madeL ⟨⟨n.id,n.bt,n.tk,n.want,n.tn,n.seen,n.hv,l⟩,[],[]⟩ nm l=m) (hw:yg m (qg m.n.hv)=w'):zu Tryz.prog 72 [jv n,j8 l,gS nm,gI 0] (rWE (w',0)):=by
 have hnk:=hF.nok
 refine enx [.cell 8 27,.tmp 9,.tmp 10,.tmp 11] Tryz.func72 fun X w0=>?_
 repeat'(first|(refine spl ?_ ?_<;>(intro hb;refine ne ?_))|(refine zl hR ?_;clear hR)|refine s1 ?_|exact True.intro|refine cal (yL n hnk) ?_|(refine zB (zK 23 8 100 30 8 (by rfl) (by rfl) (by rfl)) ?_;refine zB (zK 23 9 101 38 4 (by rfl) (by rfl) (by rfl)) ?_;simp only[List.set_cons_succ,List.set_cons_zero])|(((with_reducible refine zW ?_);refine rgx (ι:=Wk×Bool) (l.length) (fun k x=>St.ofA [(2,gS nm),(8,.loc 8 0),(12,.loc 23 0),(29,j8 l),(30,gI l.length),(31,gI k)] [(8,27,[.f (eI 0),.f (eI 0),.f (eI 0),.f (.s (.slice none 0 0)),.f (eI 0),.f (.s (.slice none 0 0)),.f (.s (.slice none 0 0)),.f (.s (.slice none 0 0))]),(23,110,[.f (eI x.1.n.id),.f (eI x.1.n.bt),.f (eI x.1.n.tk),.f (.l 1 (x.1.n.want.map Z3)),.f (eI x.1.n.tn),.f (.l 4 (x.1.n.seen.map QD)),.f (.l 6 (x.1.n.hv.map jI)),.f (.l 16 (x.1.n.ch.map QO)),.o 100,.o 101,.f (eB false),.f (eB x.2),.f (eB false)])] [(100,100,30,8,x.1.ps.map yG),(101,101,38,4,x.1.es.map zeq)]) (fun k x=>madeL ⟨⟨n.id,n.bt,n.tk,n.want,n.tn,n.seen,n.hv,l⟩,[],[]⟩ nm (l.take k)=x.1∧zy x.1.n∧x.1.es.length≤k∧x.1.ps.length=0) (⟨⟨n.id,n.bt,n.tk,n.want,n.tn,n.seen,n.hv,l⟩,[],[]⟩,false) ?_ (fun k x hJ hk=>?_) (fun x hJ=>?_));rotate_left;obtain⟨j1,j2,j3,j4⟩:=hJ;have hkx:=j2.hok)|refine rdb [] ?_|refine rex [] ?_|refine cM [(0,23)] [(0,100),(1,101)] (ze5 x.1.n x.1.ps x.1.es l[k].c false x.2 false (by omega) hkx) ?_|refine cM [(0,23)] [(0,100),(1,101)] (zg6 x.1 false x.2 false hJ.2.1 (by omega) (by omega)) ?_|refine rnx (x) ?_|refine rnx ((jA x.1 l[k].c,true)) ?_|(refine s2 ?_;try with_reducible intro R hR)|fail)
 ·exact⟨by rw[zcx hk,j1,if_pos hb],j2.frsh,by simp only[jA,List.length_append,List.length_cons,List.length_nil];omega,j4⟩
 ·exact⟨by rw[zcx hk,j1,if_neg (by rw[hb];decide)],j2,by omega,j4⟩
 ·have h1:=hJ.1
  rw[List.take_length,hm]at h1
  rw[←h1,hw]
  simp
 ·exact⟨by rw[List.take_zero];rfl,hL,by simp,rfl⟩
theorem zgn (n:zQ) (l:List Tt) (nm:ByteArray) (e:Int) (hF:zy n) (hl:e=0→fitsT n.id l=true):zu Tryz.prog 72 [jv n,j8 l,gS nm,gI e] (rWE (ZG n nm (l,e))):=by
 by_cases he:e=0
 ·subst he
  have hL:=hF.chS (hl rfl)
  exact zn5 n l nm hF hL (zH.1 (hl rfl)).2.2.1 _ _ rfl rfl
 ·have h1:ZG n nm (l,e)=(⟨n,[],[]⟩,e):=by unfold ZG;rw[if_pos (by exact he)]
  rw[h1];exact zmO n l nm e hF (by simpa using he)
theorem zbW (n:zQ) (nm:ByteArray) (kd sc:Int) (hF:zy n):zu Tryz.prog 24 [jv n,gS nm,gI kd,gI sc] (rWE (zi3 n nm kd sc)):=by
 have hs:=(zH.1 hF.ch).2.2.2.1
 have hcl:n.ch.length≤8:=(zH.1 hF.ch).2.2.1
 have hc:=zn0 n.ch n.id nm kd sc hs (zk2 hF.ch) (by omega)
 have hfc:=jj (kd:=kd) (sc:=sc) (nm:=nm) hF.ch
 unfold zi3
 rcases hC:zdk n.ch n.id nm kd sc with⟨l,e⟩
 rw[hC]at hc hfc
 have hm:=zgn n l nm e hF (fun _=>hfc)
 obtain⟨w,hw⟩: ∃w,ZG n nm (l,e)=w:=⟨_,rfl⟩
 rw[hw]at hm ⊢
 replace hC:=Lib.hid hC;replace hw:=Lib.hid hw
 refine enx [.cell 8 27,.tmp 9,.tmp 10,.tmp 11] Tryz.func24 fun X w0=>?_
 repeat'(first|(refine spl ?_ ?_<;>(intro hb;refine ne ?_))|(refine zl hR ?_;clear hR)|refine s1 ?_|exact True.intro|refine cal (hc) ?_|refine cal (hm) ?_|refine rdb [] ?_|refine rex [] ?_|(refine s2 ?_;try with_reducible intro R hR)|fail)
 all_goals trace_state
theorem zix (n:zQ) (nm:ByteArray) (hF:zy n):zu Tryz.prog 99 [jv n,gS nm] (rWE (zkj n nm)):=by
 have hs:=(zH.1 hF.ch).2.2.2.1
 have hcl:n.ch.length≤8:=(zH.1 hF.ch).2.2.1
 have hc:=zm3 n.ch n.id nm hs (zk2 hF.ch) (by omega)
 have hfc:=jl (nm:=nm) hF.ch
 unfold zkj
 rcases hC:zdt n.ch n.id nm with⟨l,e⟩
 rw[hC]at hc hfc
 have hm:=zgn n l nm e hF (fun _=>hfc)
 obtain⟨w,hw⟩: ∃w,ZG n nm (l,e)=w:=⟨_,rfl⟩
 rw[hw]at hm ⊢
 replace hC:=Lib.hid hC;replace hw:=Lib.hid hw
 refine enx [.cell 4 27,.tmp 5,.tmp 6,.tmp 7] Tryz.func99 fun X w0=>?_
 repeat'(first|(refine spl ?_ ?_<;>(intro hb;refine ne ?_))|(refine zl hR ?_;clear hR)|refine s1 ?_|exact True.intro|refine cal (hc) ?_|refine cal (hm) ?_|refine rdb [] ?_|refine rex [] ?_|(refine s2 ?_;try with_reducible intro R hR)|fail)
 all_goals trace_state
end
end Go.Proofs.YtbcbnfiedgnfpaaGreat
