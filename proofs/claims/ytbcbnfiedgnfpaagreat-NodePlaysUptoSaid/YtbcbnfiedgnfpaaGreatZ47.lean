import Derived.Test.YtbcbnfiedgnfpaaGreatZ45
import Derived.Test.YtbcbnfiedgnfpaaGreatZ46
set_option linter.unusedSimpArgs false
set_option linter.unusedVariables false
set_option maxRecDepth 100000
set_option maxHeartbeats 2000000
namespace Go.Proofs.YtbcbnfiedgnfpaaGreat
open Go.Dl
attribute [local irreducible] DW yE zY zA zu zky
attribute [local push_cast] zZ qF qC zN zM zD zE qH qE qz Go.Dl.qY yT qy List.mem_cons List.not_mem_nil or_false forall_eq false_implies implies_true
section
attribute [local simp] cv jS
theorem zlE (n:zQ) (v u2 u3:Int) (u1:List Int) (hF:zy n) (hU:ZI n.want n.tn v=(u1,u2,u3)) (h3:(u3==0)=false):zu Tryz.prog 101 [jv n,gI v] (rWE (⟨n,[],[]⟩,u3)):=by
 have hnk:=hF.nok
 have hwl:=(zU.1 hF.want).2.1
 have hne:(u3 !=0)=true:=by simp[bne,h3]
 refine enx [.cell 4 27,.tmp 5,.tmp 6,.tmp 7] Tryz.func101 fun X w0=>?_
 repeat'(first|(refine spl ?_ ?_<;>(intro hb;refine ne ?_))|(refine zl hR ?_;clear hR)|refine s1 ?_|exact True.intro|refine cal (qw n hnk) ?_|refine cal (zaB n.want n.tn v (by omega)) ?_|refine rdb [] ?_|refine rex [] ?_|(refine s2 ?_;try with_reducible intro R hR)|fail)
 all_goals trace_state
theorem zku (n:zQ) (v u2:Int) (u1:List Int) (h:Hf) (hF:zy n) (hU:ZI n.want n.tn v=(u1,u2,0)) (hf:findH v n.hv=(h,false)):zu Tryz.prog 101 [jv n,gI v] (rWE (⟨⟨n.id,n.bt,n.tk,u1,u2,n.seen,n.hv,n.ch⟩,[],[]⟩,0)):=by
 have hnk:=hF.nok
 have hwl:=(zU.1 hF.want).2.1
 have hok:=hF.hok
 refine enx [.cell 4 27,.tmp 5,.tmp 6,.tmp 7] Tryz.func101 fun X w0=>?_
 repeat'(first|(refine spl ?_ ?_<;>(intro hb;refine ne ?_))|(refine zl hR ?_;clear hR)|refine s1 ?_|exact True.intro|refine cal (qw n hnk) ?_|refine cal (zaB n.want n.tn v (by omega)) ?_|refine cal (ql n.hv v hok) ?_|(refine zB (zK 17 8 100 30 8 (by rfl) (by rfl) (by rfl)) ?_;refine zB (zK 17 9 101 38 4 (by rfl) (by rfl) (by rfl)) ?_;simp only[List.set_cons_succ,List.set_cons_zero])|refine rdb [] ?_|refine rex [] ?_|(refine s2 ?_;try with_reducible intro R hR)|fail)
 all_goals trace_state
theorem zle (n:zQ) (v u2 q bo li:Int) (ls:List Ln) (pe:Bool) (mi:Int) (u1:List Int) (hF:zy n) (hU:ZI n.want n.tn v=(u1,u2,0)) (hf:findH v n.hv=(⟨v,bo,li,ls,pe,mi⟩,true)) (hM:zy ⟨n.id,n.bt,n.tk,u1,u2,n.seen,n.hv,n.ch⟩) (w':Wk) (hw:w'=zbh ⟨⟨n.id,n.bt,n.tk,u1,u2,n.seen,n.hv,n.ch⟩,[jS n 5 v bo li []],[]⟩ v 3):zu Tryz.prog 101 [jv n,gI v] (rWE (w',0)):=by
 subst hw
 have hnk:=hF.nok
 have hwl:=(zU.1 hF.want).2.1
 have hok:=hF.hok
 refine enx [.cell 4 27,.tmp 5,.tmp 6,.tmp 7] Tryz.func101 fun X w0=>?_
 repeat'(first|(refine spl ?_ ?_<;>(intro hb;refine ne ?_))|(refine zl hR ?_;clear hR)|refine s1 ?_|exact True.intro|refine cal (qw n hnk) ?_|refine cal (zaB n.want n.tn v (by omega)) ?_|refine cal (ql n.hv v hok) ?_|(refine zB (zK 17 8 100 30 8 (by rfl) (by rfl) (by rfl)) ?_;refine zB (zK 17 9 101 38 4 (by rfl) (by rfl) (by rfl)) ?_;simp only[List.set_cons_succ,List.set_cons_zero])|refine cM [(0,17)] [(0,100),(1,101)] (ZA ⟨n.id,n.bt,n.tk,u1,u2,n.seen,n.hv,n.ch⟩ [] [] 5 v bo li hM) ?_|refine cM [(0,17)] [(0,100),(1,101)] (ZU ⟨n.id,n.bt,n.tk,u1,u2,n.seen,n.hv,n.ch⟩ [] [] ⟨5,n.id,v,n.bt,(getS n.seen v).tm,bo,li,[]⟩ (by simp)) ?_|refine cM [(0,17)] [(0,100),(1,101)] (ziT ⟨n.id,n.bt,n.tk,u1,u2,n.seen,n.hv,n.ch⟩ [⟨5,n.id,v,n.bt,(getS n.seen v).tm,bo,li,[]⟩] [] v 3 (by simp) hM) ?_|refine rdb [] ?_|refine rex [] ?_|(refine s2 ?_;try with_reducible intro R hR)|fail)
 all_goals(first|(simp[zbh,yU,jS,yG,zeq];done)|trace_state)
theorem zgD (n:zQ) (v:Int) (hF:zy n):zu Tryz.prog 101 [jv n,gI v] (rWE (jz n v)):=by
 have hm:zy ((n.waS (ZI n.want n.tn v).1).tnS (ZI n.want n.tn v).2.1):=⟨hF.bt,hF.tk,Y2 hF.want,hF.seen,hF.hv,hF.ch⟩
 rcases hU:ZI n.want n.tn v with⟨u1,u2,u3⟩
 rw[hU]at hm
 by_cases h3:u3=0
 ·subst h3
  rcases hf:findH v n.hv with⟨h,held⟩
  cases held
  ·have e:jz n v=(⟨⟨n.id,n.bt,n.tk,u1,u2,n.seen,n.hv,n.ch⟩,[],[]⟩,0):=by unfold jz;rw[hU];simp only;rw[hf];rfl
   rw[e];exact zku n v u2 u1 h hF hU hf
  ·have hp:hasP v n.hv=true:=by unfold hasP;rw[hf]
   have h2:=(hF.find hp).2.1
   rw[hf]at h2
   obtain⟨q,bo,li,ls,pe,mi⟩:=h
   simp only at h2
   subst h2
   have e:jz n q=(zbh ⟨⟨n.id,n.bt,n.tk,u1,u2,n.seen,n.hv,n.ch⟩,[jS n 5 q bo li []],[]⟩ q 3,0):=by unfold jz;rw[hU];simp only;rw[hf];rfl
   rw[e];exact zle n q u2 q bo li ls pe mi u1 hF hU hf hm _ rfl
 ·have e:jz n v=(⟨n,[],[]⟩,u3):=by unfold jz;rw[hU];simp only;rw[if_pos h3]
  rw[e];exact zlE n v u2 u3 u1 hF hU (by simpa using h3)
attribute [local simp] jH
theorem zwL (n:zQ) (v t:Int) (hF:zy n) (hN:yR n.want n.tn=(v,t,false)):zA Tryz.prog 178 [jv n] [] [] (.loc 14 0) (bRq 14 (tickN n)) (aRq [] []):=by
 have hcl:n.ch.length≤8:=(zH.1 hF.ch).2.2.1
 have hwl:=(zU.1 hF.want).2.1
 have hTn:=YE hF
 have hmx:=zd5 n.tk
 have hok:=hF.hok
 have hsl:=qt hF.seen
 have hnk:=hF.nok
 refine emx [.tmp 2] Tryz.func178 fun XX X G w0=>?_
 repeat'(first|(refine spl ?_ ?_<;>(intro hb;refine ne ?_))|(refine zl hR ?_;clear hR)|refine s1 ?_|exact True.intro|refine rtf 12 [] [] ?_|refine cal (qw n hnk) ?_|(refine zB (zK 14 8 100 30 8 (by rfl) (by rfl) (by rfl)) ?_;refine zB (zK 14 9 101 38 4 (by rfl) (by rfl) (by rfl)) ?_;simp only[List.set_cons_succ,List.set_cons_zero])|refine rdb [] ?_|refine cad (YF n.ch n.id (by omega)) ?_|refine lat ?_|refine cal (za3 n.want n.tn (by omega) hTn) ?_|refine cal (ql n.hv v hok) ?_|(refine s2 ?_;try with_reducible intro R hR)|fail)
 all_goals(first|exact fmx [(100,100),(101,101)]|trace_state)
theorem zwI (n:zQ) (v t:Int) (h:Hf) (hF:zy n) (hN:yR n.want n.tn=(v,t,true)) (hf:findH v n.hv=(h,false)):zA Tryz.prog 178 [jv n] [] [] (.loc 14 0) (bRq 14 (tkM n t)) (aRq [jH (tkM n t) v] []):=by
 have hcl:n.ch.length≤8:=(zH.1 hF.ch).2.2.1
 have hwl:=(zU.1 hF.want).2.1
 have hTn:=YE hF
 have hmx:=zd5 n.tk
 have hok:=hF.hok
 have hsl:=qt hF.seen
 have hnk:=hF.nok
 refine emx [.tmp 2] Tryz.func178 fun XX X G w0=>?_
 repeat'(first|(refine spl ?_ ?_<;>(intro hb;refine ne ?_))|(refine zl hR ?_;clear hR)|refine s1 ?_|exact True.intro|refine rtf 12 [] [] ?_|refine cal (qw n hnk) ?_|(refine zB (zK 14 8 100 30 8 (by rfl) (by rfl) (by rfl)) ?_;refine zB (zK 14 9 101 38 4 (by rfl) (by rfl) (by rfl)) ?_;simp only[List.set_cons_succ,List.set_cons_zero])|refine rdb [] ?_|refine cad (YF n.ch n.id (by omega)) ?_|refine lat ?_|refine cal (za3 n.want n.tn (by omega) hTn) ?_|refine cal (ql n.hv v hok) ?_|refine cad (zcp n.id n.bt n.seen v (by omega)) ?_|refine cM [(0,14)] [(0,100),(1,101)] (ZU (tkM n t) [] [] ⟨1,n.id,v,n.bt,(getS n.seen v).tm,0,0,[]⟩ (by simp)) ?_|(refine s2 ?_;try with_reducible intro R hR)|fail)
 all_goals(first|exact fmx [(100,100),(101,101)]|trace_state)
theorem zxN (n:zQ) (v t q bo li:Int) (ls:List Ln) (pe:Bool) (mi a1 a2 a3:Int) (a4:List Ln) (a5:Bool) (a6:Int) (hF:zy n) (hN:yR n.want n.tn=(v,t,true)) (hf:findH v n.hv=(⟨q,bo,li,ls,pe,mi⟩,true)) (hls:ls.length≤1048576) (ht:yO ⟨q,bo,li,ls,pe,mi⟩=(⟨a1,a2,a3,a4,a5,a6⟩,1)) (ha4:a4.length≤1048576)
  (hA:zy ⟨n.id,n.bt,zad n.tk,n.want,t,n.seen,qu n.hv ⟨a1,a2,a3,a4,a5,a6⟩,n.ch.map (Za n.id)⟩) (hh:hasP v (qu n.hv ⟨a1,a2,a3,a4,a5,a6⟩)=true) (w':Wk) (hw:w'=qP ⟨⟨n.id,n.bt,zad n.tk,n.want,t,n.seen,qu n.hv ⟨a1,a2,a3,a4,a5,a6⟩,n.ch.map (Za n.id)⟩,[],[]⟩ v):zA Tryz.prog 178 [jv n] [] [] (.loc 14 0) (bRq 14 w'.n) (aRq w'.ps w'.es):=by
 subst hw
 have hcl:n.ch.length≤8:=(zH.1 hF.ch).2.2.1
 have hwl:=(zU.1 hF.want).2.1
 have hTn:=YE hF
 have hmx:=zd5 n.tk
 have hok:=hF.hok
 have hsl:=qt hF.seen
 have hnk:=hF.nok
 refine emx [.tmp 2] Tryz.func178 fun XX X G w0=>?_
 repeat'(first|(refine spl ?_ ?_<;>(intro hb;refine ne ?_))|(refine zl hR ?_;clear hR)|refine s1 ?_|exact True.intro|refine rtf 12 [] [] ?_|refine cal (qw n hnk) ?_|(refine zB (zK 14 8 100 30 8 (by rfl) (by rfl) (by rfl)) ?_;refine zB (zK 14 9 101 38 4 (by rfl) (by rfl) (by rfl)) ?_;simp only[List.set_cons_succ,List.set_cons_zero])|refine rdb [] ?_|refine cad (YF n.ch n.id (by omega)) ?_|refine lat ?_|refine cal (za3 n.want n.tn (by omega) hTn) ?_|refine cal (ql n.hv v hok) ?_|refine cal (zhi q bo li ls pe mi (by omega)) ?_|refine cad (yq n.hv a1 a2 a3 a4 a5 a6 hok ha4) ?_|refine cM [(0,14)] [(0,100),(1,101)] (zaa ⟨⟨n.id,n.bt,zad n.tk,n.want,t,n.seen,qu n.hv ⟨a1,a2,a3,a4,a5,a6⟩,n.ch.map (Za n.id)⟩,[],[]⟩ v hA hh (by simp) (by simp)) ?_|(refine s2 ?_;try with_reducible intro R hR)|fail)
 all_goals(first|exact fmx [(100,100),(101,101)]|trace_state)
theorem zvp (n:zQ) (v t q bo li:Int) (ls:List Ln) (pe:Bool) (mi a1 a2 a3:Int) (a4:List Ln) (a5:Bool) (a6 wh:Int) (hF:zy n) (hN:yR n.want n.tn=(v,t,true)) (hf:findH v n.hv=(⟨q,bo,li,ls,pe,mi⟩,true)) (hls:ls.length≤1048576) (ht:yO ⟨q,bo,li,ls,pe,mi⟩=(⟨a1,a2,a3,a4,a5,a6⟩,wh)) (hwh:(wh==1)=false) (hM:zy (tkM n t)) (hD:zy (yU (tkM n t) v)):zA Tryz.prog 178 [jv n] [] [] (.loc 14 0) (bRq 14 (yU (tkM n t) v)) (aRq [jH (yU (tkM n t) v) v] [⟨2,v,yI,1⟩]):=by
 have hcl:n.ch.length≤8:=(zH.1 hF.ch).2.2.1
 have hwl:=(zU.1 hF.want).2.1
 have hTn:=YE hF
 have hmx:=zd5 n.tk
 have hok:=hF.hok
 have hsl:=qt hF.seen
 have hnk:=hF.nok
 have hsl2:=qt hD.seen
 simp only[yU,zQ.hvS,zQ.seS]at hsl2
 refine emx [.tmp 2] Tryz.func178 fun XX X G w0=>?_
 repeat'(first|(refine spl ?_ ?_<;>(intro hb;refine ne ?_))|(refine zl hR ?_;clear hR)|refine s1 ?_|exact True.intro|refine rtf 12 [] [] ?_|refine cal (qw n hnk) ?_|(refine zB (zK 14 8 100 30 8 (by rfl) (by rfl) (by rfl)) ?_;refine zB (zK 14 9 101 38 4 (by rfl) (by rfl) (by rfl)) ?_;simp only[List.set_cons_succ,List.set_cons_zero])|refine rdb [] ?_|refine cad (YF n.ch n.id (by omega)) ?_|refine lat ?_|refine cal (za3 n.want n.tn (by omega) hTn) ?_|refine cal (ql n.hv v hok) ?_|refine cal (zhi q bo li ls pe mi (by omega)) ?_|refine cM [(0,14)] [(0,100),(1,101)] (ziT (tkM n t) [] [] v 1 (by simp) hM) ?_|refine cad (zcp n.id n.bt (qh n.seen (QL (getS n.seen v))) v (by omega)) ?_|refine cM [(0,14)] [(0,100),(1,101)] (ZU (yU (tkM n t) v) [] [⟨2,v,yI,1⟩] ⟨1,n.id,v,n.bt,(getS (qh n.seen (QL (getS n.seen v))) v).tm,0,0,[]⟩ (by simp)) ?_|(refine s2 ?_;try with_reducible intro R hR)|fail)
 all_goals(first|exact fmx [(100,100),(101,101)]|trace_state)
end
end Go.Proofs.YtbcbnfiedgnfpaaGreat
