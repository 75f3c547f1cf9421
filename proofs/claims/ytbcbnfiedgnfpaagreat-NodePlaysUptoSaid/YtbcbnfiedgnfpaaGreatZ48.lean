import Derived.Test.YtbcbnfiedgnfpaaGreatZ47
import Derived.Test.YtbcbnfiedgnfpaaGreatZ38
set_option linter.unusedSimpArgs false
set_option linter.unusedVariables false
set_option maxRecDepth 100000
set_option maxHeartbeats 2000000
namespace Go.Proofs.YtbcbnfiedgnfpaaGreat
open Go.Dl
attribute [local irreducible] DW yE zY zA zu zky
attribute [local push_cast] zZ qF qC zN zM zD zE qH qE qz Go.Dl.qY yT qy List.mem_cons List.not_mem_nil or_false forall_eq false_implies implies_true
section
attribute [local simp] cv jS
theorem zwB (n:zQ) (hF:zy n):zA Tryz.prog 178 [jv n] [] [] (.loc 14 0) (bRq 14 (tickW n).n) (aRq (tickW n).ps (tickW n).es):=by
 have hw:=Qa hF.want
 have hM:zy ((tickN n).tnS (yR n.want n.tn).2.1):=hF.tickN.tnS hw.1
 rcases hN:yR n.want n.tn with⟨v,t,ok⟩
 rw[hN]at hw hM
 have hM2:zy (tkM n t):=hM
 cases ok
 ·have e:tickW n=⟨tickN n,[],[]⟩:=by unfold tickW;rw[hN];rfl
  rw[e];exact zwL n v t hF hN
 ·have hmem:=hw.2 rfl
  have hnd:=(zU.1 hF.want).2.2.2.2.1 _ hmem
  have hv:=Zt (qd.1 hnd.1)
  rcases hf:findH v n.hv with⟨h,held⟩
  cases held
  ·have e:tickW n=⟨tkM n t,[jH (tkM n t) v],[]⟩:=by unfold tickW;rw[hN];simp only;rw[hf];rfl
   rw[e];exact zwI n v t h hF hN hf
  ·have hp:hasP v n.hv=true:=by unfold hasP;rw[hf]
   obtain⟨h1,h2,h3⟩:=hF.find hp
   rw[hf]at h1 h2 h3
   simp only at h1 h2 h3
   have hr:=(z0.1 h1).1
   have hll:=(z0.1 h1).2.1
   have ht:=Zx h1
   obtain⟨q,bo,li,ls,pe,mi⟩:=h
   rcases htt:yO ⟨q,bo,li,ls,pe,mi⟩with⟨⟨a1,a2,a3,a4,a5,a6⟩,wh⟩
   have hmi:0≤mi∧mi<3:=by simp only[zcw]at hr;omega
   rw[htt]at ht
   simp only at ht h2 hll
   rcases ht with⟨g0,g1,g2,g3,g4,g5,g6⟩|g
   ·have hk:zy ((tkM n t).hvS (qu n.hv ⟨a1,a2,a3,a4,a5,a6⟩)):=hM2.keep g1
    have hk2:zy ⟨n.id,n.bt,zad n.tk,n.want,t,n.seen,qu n.hv ⟨a1,a2,a3,a4,a5,a6⟩,n.ch.map (Za n.id)⟩:=hk
    have hh:hasP v (qu n.hv ⟨a1,a2,a3,a4,a5,a6⟩)=true:=Zh.2 (.inl (by simp only;rw[g2,h2]))
    have ha1:0≤a1∧a1<16:=by rw[g2,h2];exact qd.1 hnd.1
    have e:tickW n=qP ⟨⟨n.id,n.bt,zad n.tk,n.want,t,n.seen,qu n.hv ⟨a1,a2,a3,a4,a5,a6⟩,n.ch.map (Za n.id)⟩,[],[]⟩ v:=by
     unfold tickW;rw[hN];simp only;rw[hf];simp only;rw[htt];simp only[g0];rfl
    exact zxN n v t q bo li ls pe mi a1 a2 a3 a4 a5 a6 hF hN hf (by omega) (by rw[htt,g0]) (by rw[g5];omega) hk2 hh _ e
   ·have hD:zy (yU (tkM n t) v):=hM2.drop hnd.1 hnd.2
    have e:tickW n=⟨yU (tkM n t) v,[jH (yU (tkM n t) v) v],[⟨2,v,yI,1⟩]⟩:=by
     unfold tickW;rw[hN];simp only;rw[hf];simp only;rw[htt];simp only[g];rfl
    rw[e]
    exact zvp n v t q bo li ls pe mi a1 a2 a3 a4 a5 a6 wh hF hN hf (by omega) htt (by rw[g];rfl) hM2 hD
theorem zlt (n:zQ) (hF:zy n):zu Tryz.prog 105 [jv n] (rW (tickW n)):=by
 obtain⟨w,hw⟩: ∃w,tickW n=w:=⟨_,rfl⟩
 have ht:=zwB n hF
 rw[hw]at ht ⊢
 refine enx [.cell 2 27,.tmp 3,.tmp 4] Tryz.func105 fun X w0=>?_
 repeat'(first|(refine spl ?_ ?_<;>(intro hb;refine ne ?_))|(refine zl hR ?_;clear hR)|refine s1 ?_|exact True.intro|refine cM [(14,14)] [(100,100),(101,101)] (ht) ?_|refine cM [(0,14)] [(0,100),(1,101)] (zt1 w.n w.ps w.es) ?_|refine rdb [] ?_|refine rex [] ?_|(refine s2 ?_;try with_reducible intro R hR)|fail)
 all_goals trace_state
theorem zvo (n:zQ) (p:qO) (hF:zy n) (hpk:PkOk p) (hbad:jb p=false∨(jb p=true∧(p.to !=n.id)=true)∨(jb p=true∧(p.to !=n.id)=false∧decide (p.fr∈n.want)=false)):zA Tryz.prog 180 [jv n,ZJ p] [] [] (.loc 10 0) (bRq 10 n) (aRq [] [⟨6,p.fr,yI,p.kd⟩]):=by
 have hwl:=(zU.1 hF.want).2.1
 have hok:=hF.hok
 have hsl:=qt hF.seen
 have hnk:=hF.nok
 rcases hbad with h1|⟨h1,h2⟩|⟨h1,h2,h3⟩
 ·refine emx [.tmp 4] Tryz.func180 fun XX X G w0=>?_
  repeat'(first|(refine spl ?_ ?_<;>(intro hb;refine ne ?_))|(refine zl hR ?_;clear hR)|refine s1 ?_|exact True.intro|(refine zB (zK 10 8 100 30 8 (by rfl) (by rfl) (by rfl)) ?_;refine zB (zK 10 9 101 38 4 (by rfl) (by rfl) (by rfl)) ?_;simp only[List.set_cons_succ,List.set_cons_zero])|refine cal (qw n hnk) ?_|refine cal (Zz p hpk) ?_|refine cal (Qi n.want p.fr (by omega)) ?_|(with_reducible refine qR rfl ?_)|(with_reducible refine qT ?_)|(dsimp only[YT])|refine rdb [] ?_|refine cM [(0,10)] [(0,100),(1,101)] (jT n [] [] ⟨6,p.fr,yI,p.kd⟩ (by simp)) ?_|(refine s2 ?_;try with_reducible intro R hR)|fail)
  all_goals(first|exact fmx [(100,100),(101,101)]|trace_state)
 ·refine emx [.tmp 4] Tryz.func180 fun XX X G w0=>?_
  repeat'(first|(refine spl ?_ ?_<;>(intro hb;refine ne ?_))|(refine zl hR ?_;clear hR)|refine s1 ?_|exact True.intro|(refine zB (zK 10 8 100 30 8 (by rfl) (by rfl) (by rfl)) ?_;refine zB (zK 10 9 101 38 4 (by rfl) (by rfl) (by rfl)) ?_;simp only[List.set_cons_succ,List.set_cons_zero])|refine cal (qw n hnk) ?_|refine cal (Zz p hpk) ?_|refine cal (Qi n.want p.fr (by omega)) ?_|(with_reducible refine qR rfl ?_)|(with_reducible refine qT ?_)|(dsimp only[YT])|refine rdb [] ?_|refine cM [(0,10)] [(0,100),(1,101)] (jT n [] [] ⟨6,p.fr,yI,p.kd⟩ (by simp)) ?_|(refine s2 ?_;try with_reducible intro R hR)|fail)
  all_goals(first|exact fmx [(100,100),(101,101)]|trace_state)
 ·refine emx [.tmp 4] Tryz.func180 fun XX X G w0=>?_
  repeat'(first|(refine spl ?_ ?_<;>(intro hb;refine ne ?_))|(refine zl hR ?_;clear hR)|refine s1 ?_|exact True.intro|(refine zB (zK 10 8 100 30 8 (by rfl) (by rfl) (by rfl)) ?_;refine zB (zK 10 9 101 38 4 (by rfl) (by rfl) (by rfl)) ?_;simp only[List.set_cons_succ,List.set_cons_zero])|refine cal (qw n hnk) ?_|refine cal (Zz p hpk) ?_|refine cal (Qi n.want p.fr (by omega)) ?_|(with_reducible refine qR rfl ?_)|(with_reducible refine qT ?_)|(dsimp only[YT])|refine rdb [] ?_|refine cM [(0,10)] [(0,100),(1,101)] (jT n [] [] ⟨6,p.fr,yI,p.kd⟩ (by simp)) ?_|(refine s2 ?_;try with_reducible intro R hR)|fail)
  all_goals(first|exact fmx [(100,100),(101,101)]|trace_state)
theorem zv1 (n:zQ) (p:qO) (hF:zy n) (hpk:PkOk p) (h1:jb p=true) (h2:(p.to !=n.id)=false) (h3:decide (p.fr∈n.want)=true) (j:Int) (hj:zu Tryz.prog 252 [QN n.seen,gI n.bt,ZJ p] (gI j)) (j2:(j==2)=false) (j3:(j==3)=false):zA Tryz.prog 180 [jv n,ZJ p] [] [] (.loc 10 0) (bRq 10 n) (aRq [] [⟨6,p.fr,yI,p.kd⟩]):=by
 have hwl:=(zU.1 hF.want).2.1
 have hok:=hF.hok
 have hsl:=qt hF.seen
 have hnk:=hF.nok
 refine emx [.tmp 4] Tryz.func180 fun XX X G w0=>?_
 repeat'(first|(refine spl ?_ ?_<;>(intro hb;refine ne ?_))|(refine zl hR ?_;clear hR)|refine s1 ?_|exact True.intro|(refine zB (zK 10 8 100 30 8 (by rfl) (by rfl) (by rfl)) ?_;refine zB (zK 10 9 101 38 4 (by rfl) (by rfl) (by rfl)) ?_;simp only[List.set_cons_succ,List.set_cons_zero])|refine cal (qw n hnk) ?_|refine cal (Zz p hpk) ?_|refine cal (Qi n.want p.fr (by omega)) ?_|(with_reducible refine qR rfl ?_)|(with_reducible refine qT ?_)|(dsimp only[YT])|refine rdb [] ?_|refine cal (hj) ?_|refine cM [(0,10)] [(0,100),(1,101)] (jT n [] [] ⟨6,p.fr,yI,p.kd⟩ (by simp)) ?_|(refine s2 ?_;try with_reducible intro R hR)|fail)
 all_goals(first|exact fmx [(100,100),(101,101)]|trace_state)
theorem zxa (n:zQ) (p:qO) (hF:zy n) (hpk:PkOk p) (h1:jb p=true) (h2:(p.to !=n.id)=false) (h3:decide (p.fr∈n.want)=true) (j:Int) (hj:zu Tryz.prog 252 [QN n.seen,gI n.bt,ZJ p] (gI j)) (j3:(j==3)=true):zA Tryz.prog 180 [jv n,ZJ p] [] [] (.loc 10 0) (bRq 10 n) (aRq [⟨2,n.id,p.fr,n.bt,(getS n.seen p.fr).tm,p.bt,p.lf,[]⟩] []):=by
 have hwl:=(zU.1 hF.want).2.1
 have hok:=hF.hok
 have hsl:=qt hF.seen
 have hnk:=hF.nok
 have hwc:=zf8 n.id n.bt n.seen p.kd p.fr p.to p.bt p.lf p.ec p.el (p.its.map yS) (by omega)
 refine emx [.tmp 4] Tryz.func180 fun XX X G w0=>?_
 repeat'(first|(refine spl ?_ ?_<;>(intro hb;refine ne ?_))|(refine zl hR ?_;clear hR)|refine s1 ?_|exact True.intro|(refine zB (zK 10 8 100 30 8 (by rfl) (by rfl) (by rfl)) ?_;refine zB (zK 10 9 101 38 4 (by rfl) (by rfl) (by rfl)) ?_;simp only[List.set_cons_succ,List.set_cons_zero])|refine cal (qw n hnk) ?_|refine cal (Zz p hpk) ?_|refine cal (Qi n.want p.fr (by omega)) ?_|(with_reducible refine qR rfl ?_)|(with_reducible refine qT ?_)|(dsimp only[YT])|refine rdb [] ?_|refine cal (hj) ?_|refine cal (hwc) ?_|refine cM [(0,10)] [(0,100),(1,101)] (ZU n [] [] ⟨2,n.id,p.fr,n.bt,(getS n.seen p.fr).tm,p.bt,p.lf,[]⟩ (by simp)) ?_|(refine s2 ?_;try with_reducible intro R hR)|fail)
 all_goals(first|exact fmx [(100,100),(101,101)]|trace_state)
theorem zwj (n:zQ) (p:qO) (hF:zy n) (hpk:PkOk p) (h1:jb p=true) (h2:(p.to !=n.id)=false) (h3:decide (p.fr∈n.want)=true) (j:Int) (hj:zu Tryz.prog 252 [QN n.seen,gI n.bt,ZJ p] (gI j)) (j2:(j==2)=true) (j3:(j==3)=false) (h5:(p.kd !=5)=true) (w:Wk) (hh:zA Tryz.prog 255 [.loc 0 0,ZJ p] (jg (⟨⟨n.id,n.bt,n.tk,n.want,n.tn,qh n.seen (ZZ (getS n.seen p.fr) p.bt p.lf),n.hv,n.ch⟩,[],[]⟩:Wk).n) (qI [] []) (.tup []) (jg w.n) (qI w.ps w.es)):zA Tryz.prog 180 [jv n,ZJ p] [] [] (.loc 10 0) (bRq 10 w.n) (aRq w.ps w.es):=by
 have hwl:=(zU.1 hF.want).2.1
 have hok:=hF.hok
 have hsl:=qt hF.seen
 have hnk:=hF.nok
 refine emx [.tmp 4] Tryz.func180 fun XX X G w0=>?_
 repeat'(first|(refine spl ?_ ?_<;>(intro hb;refine ne ?_))|(refine zl hR ?_;clear hR)|refine s1 ?_|exact True.intro|(refine zB (zK 10 8 100 30 8 (by rfl) (by rfl) (by rfl)) ?_;refine zB (zK 10 9 101 38 4 (by rfl) (by rfl) (by rfl)) ?_;simp only[List.set_cons_succ,List.set_cons_zero])|refine cal (qw n hnk) ?_|refine cal (Zz p hpk) ?_|refine cal (Qi n.want p.fr (by omega)) ?_|(with_reducible refine qR rfl ?_)|(with_reducible refine qT ?_)|(dsimp only[YT])|refine rdb [] ?_|refine cal (hj) ?_|refine cad (zbF n.seen p.fr p.bt p.lf (by omega)) ?_|refine lat ?_|refine cM [(0,10)] [(0,100),(1,101)] (hh) ?_|(refine s2 ?_;try with_reducible intro R hR)|fail)
 all_goals(first|exact fmx [(100,100),(101,101)]|trace_state)
theorem zxi (n:zQ) (p:qO) (hF:zy n) (hpk:PkOk p) (h1:jb p=true) (h2:(p.to !=n.id)=false) (h3:decide (p.fr∈n.want)=true) (j:Int) (hj:zu Tryz.prog 252 [QN n.seen,gI n.bt,ZJ p] (gI j)) (j2:(j==2)=true) (j3:(j==3)=false) (h5:(p.kd !=5)=false) (hS:zy (⟨⟨n.id,n.bt,n.tk,n.want,n.tn,qh n.seen (ZZ (getS n.seen p.fr) p.bt p.lf),n.hv,n.ch⟩,[],[]⟩:Wk).n) (pb:Bool) (hpb:ziy (findH p.fr n.hv) p.bt p.lf=pb):zA Tryz.prog 180 [jv n,ZJ p] [] [] (.loc 10 0) (bRq 10 (if pb then yU (⟨⟨n.id,n.bt,n.tk,n.want,n.tn,qh n.seen (ZZ (getS n.seen p.fr) p.bt p.lf),n.hv,n.ch⟩,[],[]⟩:Wk).n p.fr else(⟨⟨n.id,n.bt,n.tk,n.want,n.tn,qh n.seen (ZZ (getS n.seen p.fr) p.bt p.lf),n.hv,n.ch⟩,[],[]⟩:Wk).n)) (aRq [] (if pb then [⟨2,p.fr,yI,2⟩]else [⟨6,p.fr,yI,p.kd⟩])):=by
 have hwl:=(zU.1 hF.want).2.1
 have hok:=hF.hok
 have hsl:=qt hF.seen
 have hnk:=hF.nok
 have hpt:=ziB n.hv p.kd p.fr p.to p.bt p.lf p.ec p.el (p.its.map yS) hok
 rw[hpb]at hpt
 cases pb
 ·refine emx [.tmp 4] Tryz.func180 fun XX X G w0=>?_
  repeat'(first|(refine spl ?_ ?_<;>(intro hb;refine ne ?_))|(refine zl hR ?_;clear hR)|refine s1 ?_|exact True.intro|(refine zB (zK 10 8 100 30 8 (by rfl) (by rfl) (by rfl)) ?_;refine zB (zK 10 9 101 38 4 (by rfl) (by rfl) (by rfl)) ?_;simp only[List.set_cons_succ,List.set_cons_zero])|refine cal (qw n hnk) ?_|refine cal (Zz p hpk) ?_|refine cal (Qi n.want p.fr (by omega)) ?_|(with_reducible refine qR rfl ?_)|(with_reducible refine qT ?_)|(dsimp only[YT])|refine rdb [] ?_|refine cal (hj) ?_|refine cad (zbF n.seen p.fr p.bt p.lf (by omega)) ?_|refine cad (hpt) ?_|refine lat ?_|refine cM [(0,10)] [(0,100),(1,101)] (jT (⟨⟨n.id,n.bt,n.tk,n.want,n.tn,qh n.seen (ZZ (getS n.seen p.fr) p.bt p.lf),n.hv,n.ch⟩,[],[]⟩:Wk).n [] [] ⟨6,p.fr,yI,p.kd⟩ (by simp)) ?_|(refine s2 ?_;try with_reducible intro R hR)|fail)
  all_goals(first|exact fmx [(100,100),(101,101)]|trace_state)
 ·refine emx [.tmp 4] Tryz.func180 fun XX X G w0=>?_
  repeat'(first|(refine spl ?_ ?_<;>(intro hb;refine ne ?_))|(refine zl hR ?_;clear hR)|refine s1 ?_|exact True.intro|(refine zB (zK 10 8 100 30 8 (by rfl) (by rfl) (by rfl)) ?_;refine zB (zK 10 9 101 38 4 (by rfl) (by rfl) (by rfl)) ?_;simp only[List.set_cons_succ,List.set_cons_zero])|refine cal (qw n hnk) ?_|refine cal (Zz p hpk) ?_|refine cal (Qi n.want p.fr (by omega)) ?_|(with_reducible refine qR rfl ?_)|(with_reducible refine qT ?_)|(dsimp only[YT])|refine rdb [] ?_|refine cal (hj) ?_|refine cad (zbF n.seen p.fr p.bt p.lf (by omega)) ?_|refine cad (hpt) ?_|refine lat ?_|refine cM [(0,10)] [(0,100),(1,101)] (ziT (⟨⟨n.id,n.bt,n.tk,n.want,n.tn,qh n.seen (ZZ (getS n.seen p.fr) p.bt p.lf),n.hv,n.ch⟩,[],[]⟩:Wk).n [] [] p.fr 2 (by simp) hS) ?_|(refine s2 ?_;try with_reducible intro R hR)|fail)
  all_goals(first|exact fmx [(100,100),(101,101)]|trace_state)
theorem znz (n:zQ) (p:qO) (hF:zy n) (hpk:PkOk p):zA Tryz.prog 180 [jv n,ZJ p] [] [] (.loc 10 0) (bRq 10 (jp n p).n) (aRq (jp n p).ps (jp n p).es):=by
 by_cases hbad:jb p=false∨(jb p=true∧(p.to !=n.id)=true)∨(jb p=true∧(p.to !=n.id)=false∧decide (p.fr∈n.want)=false)
 ·have e:jp n p=⟨n,[],[⟨6,p.fr,yI,p.kd⟩]⟩:=by
   unfold jp
   rw[if_pos (by rcases hbad with h1|⟨h1,h2⟩|⟨h1,h2,h3⟩<;>simp_all)]
   rfl
  rw[e];exact zvo n p hF hpk hbad
 ·have h1:jb p=true:=by cases h:jb p<;>simp_all
  have h2:(p.to !=n.id)=false:=by cases h:(p.to !=n.id)<;>simp_all
  have h3:decide (p.fr∈n.want)=true:=by cases h:decide (p.fr∈n.want)<;>simp_all
  have hH:=Qc (n:=n) h1 (by simpa using h2)
  have hsl:=qt hF.seen
  have hj:=zjt n.seen n.bt p.kd p.fr p.to p.bt p.lf p.ec p.el (p.its.map yS) (by omega)
  have hS:=hF.see hH
  generalize hjj:j9 (getS n.seen p.fr) n.bt p.kd p.bt p.lf p.ec p.el=j at hj
  have e:jp n p=(if j=3 then⟨n,[⟨2,n.id,p.fr,n.bt,(getS n.seen p.fr).tm,p.bt,p.lf,[]⟩],[]⟩else if j=2 then Q9 n p else zem ⟨n,[],[]⟩ p):=by
   unfold jp
   rw[if_neg (by simp_all),←hjj]
  rw[e]
  by_cases j3:j=3
  ·rw[if_pos j3];exact zxa n p hF hpk h1 h2 h3 j hj (by simpa using j3)
  ·rw [if_neg j3]
   have j3':(j==3)=false:=by simpa using j3
   by_cases j2:j=2
   ·rw [if_pos j2]
    have j2':(j==2)=true:=by simpa using j2
    unfold Q9
    by_cases h5:p.kd=5
    ·rw[if_neg (by simpa using h5)]
     have h5':(p.kd !=5)=false:=by simp[bne,h5]
     have:=zxi n p hF hpk h1 h2 h3 j hj j2' j3' h5' hS _ rfl
     split
     ·rename_i hb;rw[if_pos hb,if_pos hb]at this;exact this
     ·rename_i hb;rw[if_neg hb,if_neg hb]at this;exact this
    ·rw[if_pos h5]
     exact zwj n p hF hpk h1 h2 h3 j hj j2' j3' (by simpa using h5) _ (zwy ⟨qW n p,[],[]⟩ p hS ⟨hH.fr,hH.ne,hH.bt,hH.lf,hH.its⟩ (by
      have h9:=h1
      simp only[jb,Bool.and_eq_true]at h9
      have h9:=h9.2
      split at h9
      ·simp only[Bool.and_eq_true,decide_eq_true_eq]at h9;exact h9.1
      ·have:p.its=[]:=by simpa using h9
       rw[this];simp) (by simp) (by simp))
   ·rw[if_neg j2];exact zv1 n p hF hpk h1 h2 h3 j hj (by simpa using j2) j3'
theorem zf4 (n:zQ) (p:qO) (hF:zy n) (hpk:PkOk p):zu Tryz.prog 106 [jv n,ZJ p] (rW (jp n p)):=by
 obtain⟨w,hw⟩: ∃w,jp n p=w:=⟨_,rfl⟩
 have ht:=znz n p hF hpk
 rw[hw]at ht ⊢
 refine enx [.cell 4 27,.tmp 5,.tmp 6] Tryz.func106 fun X w0=>?_
 repeat'(first|(refine spl ?_ ?_<;>(intro hb;refine ne ?_))|(refine zl hR ?_;clear hR)|refine s1 ?_|exact True.intro|refine cM [(10,20)] [(100,100),(101,101)] (ht) ?_|refine cM [(0,20)] [(0,100),(1,101)] (zt1 w.n w.ps w.es) ?_|refine rdb [] ?_|refine rex [] ?_|(refine s2 ?_;try with_reducible intro R hR)|fail)
 all_goals trace_state
end
end Go.Proofs.YtbcbnfiedgnfpaaGreat
