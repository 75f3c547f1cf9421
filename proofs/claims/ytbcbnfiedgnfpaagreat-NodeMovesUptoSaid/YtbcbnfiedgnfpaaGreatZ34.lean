import Derived.Test.YtbcbnfiedgnfpaaGreatZ29
set_option linter.unusedSimpArgs false
set_option linter.unusedVariables false
set_option maxRecDepth 100000
set_option maxHeartbeats 2000000
namespace Go.Proofs.YtbcbnfiedgnfpaaGreat
open Go.Dl
attribute [local irreducible] DW yE zY zA zu zky
attribute [local push_cast] zZ qF qC zN zM zD zE qH qE qz Go.Dl.qY yT qy List.mem_cons List.not_mem_nil or_false forall_eq false_implies implies_true
section
attribute [local simp] cv jS
abbrev tkM (n:zQ) (t:Int):zQ:=⟨n.id,n.bt,zad n.tk,n.want,t,n.seen,n.hv,n.ch.map (Za n.id)⟩
theorem YE {n:zQ} (hF:zy n):n.want.length=0∨0≤n.tn∧n.tn<n.want.length:=by
 have h:=zU.1 hF.want
 by_cases h0:n.want.length=0
 ·exact .inl h0
 ·right;rcases h.2.2.2.1 with g|g
  ·rw[g];omega
  ·exact⟨h.2.2.1,g⟩
theorem zd5 (x:Int):(if 1099511627776<IntKind.i64.wrap (x+1)then 1099511627776 else IntKind.i64.wrap (x+1))=zad x:=by
 unfold zad wr;split<;>split<;>omega
attribute [local simp] jH
theorem zvt (n:zQ) (v t:Int) (hF:zy n) (hN:yR n.want n.tn=(v,t,false)):zA Tryz.prog 121 [.loc 0 0] (yA n false false false) (qI [] []) (.tup []) (yA (tickN n) false false false) (qI [] []):=by
 have hcl:n.ch.length≤8:=(zH.1 hF.ch).2.2.1
 have hX:=zbb hF.ch
 have hwl:=(zU.1 hF.want).2.1
 have hTn:=YE hF
 have hmx:=zd5 n.tk
 have hok:=hF.hok
 have hsr:=hF.srt
 have hrg:=hF.rng
 refine emx [] Tryz.func121 fun XX X G w0=>?_
 repeat'(first|(refine spl ?_ ?_<;>(intro hb;refine ne ?_))|(refine zl hR ?_;clear hR)|refine s1 ?_|exact True.intro|refine rdb [] ?_|refine cad (zb8 n.ch n.id (by omega) hX) ?_|refine cad (Js n.want n.tn (by omega) hTn) ?_|refine lat ?_|(refine s2 ?_;try with_reducible intro R hR)|fail)
 all_goals(first|exact fmx [(0,0),(1,1)]|trace_state)
theorem zxU (n:zQ) (v t:Int) (h:Hf) (hF:zy n) (hv:I64 v) (hN:yR n.want n.tn=(v,t,true)) (hf:findH v n.hv=(h,false)):zA Tryz.prog 121 [.loc 0 0] (yA n false false false) (qI [] []) (.tup []) (yA (tkM n t) false false false) (qI [jH (tkM n t) v] []):=by
 have hcl:n.ch.length≤8:=(zH.1 hF.ch).2.2.1
 have hX:=zbb hF.ch
 have hwl:=(zU.1 hF.want).2.1
 have hTn:=YE hF
 have hmx:=zd5 n.tk
 have hok:=hF.hok
 have hsr:=hF.srt
 have hrg:=hF.rng
 have hse:=hF.srtS
 have hsl:=qt hF.seen
 refine emx [] Tryz.func121 fun XX X G w0=>?_
 repeat'(first|(refine spl ?_ ?_<;>(intro hb;refine ne ?_))|(refine zl hR ?_;clear hR)|refine s1 ?_|exact True.intro|refine rdb [] ?_|refine cad (zb8 n.ch n.id (by omega) hX) ?_|refine cad (Js n.want n.tn (by omega) hTn) ?_|refine lat ?_|refine cal (jc n.hv v hok hsr hrg hv) ?_|((with_reducible refine zL fun R hR=>?_);refine rtf 18 [] [] ?_)|refine cad (zhk n.id n.bt n.seen v hse (by omega)) ?_|refine cM [(0,0)] [(0,0),(1,1)] (za8 (tkM n t) [] [] ⟨1,n.id,v,n.bt,(getS n.seen v).tm,0,0,[]⟩ false false false (by simp)) ?_|(refine s2 ?_;try with_reducible intro R hR)|fail)
 all_goals(first|exact fmx [(0,0),(1,1)]|trace_state)
theorem zvG (n:zQ) (v t q bo li:Int) (ls:List Ln) (pe:Bool) (mi a1 a2 a3:Int) (a4:List Ln) (a5:Bool) (a6:Int) (hF:zy n) (hv:I64 v) (hN:yR n.want n.tn=(v,t,true)) (hf:findH v n.hv=(⟨q,bo,li,ls,pe,mi⟩,true)) (hls:ls.length≤1048576) (hmi:0≤mi∧mi<3) (ht:yO ⟨q,bo,li,ls,pe,mi⟩=(⟨a1,a2,a3,a4,a5,a6⟩,1)) (ha4:a4.length≤1048576) (ha1:0≤a1∧a1<16)
  (hM:zy (tkM n t)) (hA:zy ⟨n.id,n.bt,zad n.tk,n.want,t,n.seen,qu n.hv ⟨a1,a2,a3,a4,a5,a6⟩,n.ch.map (Za n.id)⟩) (hh:hasP v (qu n.hv ⟨a1,a2,a3,a4,a5,a6⟩)=true) (w':Wk) (hw:w'=qP ⟨⟨n.id,n.bt,zad n.tk,n.want,t,n.seen,qu n.hv ⟨a1,a2,a3,a4,a5,a6⟩,n.ch.map (Za n.id)⟩,[],[]⟩ v):zA Tryz.prog 121 [.loc 0 0] (yA n false false false) (qI [] []) (.tup []) (yA w'.n false false false) (qI w'.ps w'.es):=by
 subst hw
 have hcl:n.ch.length≤8:=(zH.1 hF.ch).2.2.1
 have hX:=zbb hF.ch
 have hwl:=(zU.1 hF.want).2.1
 have hTn:=YE hF
 have hmx:=zd5 n.tk
 have hok:=hF.hok
 have hsr:=hF.srt
 have hrg:=hF.rng
 refine emx [] Tryz.func121 fun XX X G w0=>?_
 repeat'(first|(refine spl ?_ ?_<;>(intro hb;refine ne ?_))|(refine zl hR ?_;clear hR)|refine s1 ?_|exact True.intro|refine rdb [] ?_|refine cad (zb8 n.ch n.id (by omega) hX) ?_|refine cad (Js n.want n.tn (by omega) hTn) ?_|refine lat ?_|refine cal (jc n.hv v hok hsr hrg hv) ?_|refine cal (zfD q bo li ls pe mi hls hmi) ?_|refine cM [(0,0)] [(0,0),(1,1)] (YD (tkM n t) [] [] ⟨a1,a2,a3,a4,a5,a6⟩ false false false hM ha4 ha1) ?_|refine cM [(0,0)] [(0,0),(1,1)] (znF ⟨⟨n.id,n.bt,zad n.tk,n.want,t,n.seen,qu n.hv ⟨a1,a2,a3,a4,a5,a6⟩,n.ch.map (Za n.id)⟩,[],[]⟩ v false false false hA hh (by simp) (by simp)) ?_|(refine s2 ?_;try with_reducible intro R hR)|fail)
 all_goals(first|exact fmx [(0,0),(1,1)]|trace_state)
theorem zwE (n:zQ) (v t q bo li:Int) (ls:List Ln) (pe:Bool) (mi a1 a2 a3:Int) (a4:List Ln) (a5:Bool) (a6 wh:Int) (hF:zy n) (hv:I64 v) (hN:yR n.want n.tn=(v,t,true)) (hf:findH v n.hv=(⟨q,bo,li,ls,pe,mi⟩,true)) (hls:ls.length≤1048576) (hmi:0≤mi∧mi<3) (ht:yO ⟨q,bo,li,ls,pe,mi⟩=(⟨a1,a2,a3,a4,a5,a6⟩,wh)) (hwh:(wh==1)=false) (hM:zy (tkM n t)) (hD:zy (yU (tkM n t) v)):zA Tryz.prog 121 [.loc 0 0] (yA n false false false) (qI [] []) (.tup []) (yA (yU (tkM n t) v) false false false) (qI [jH (yU (tkM n t) v) v] [⟨2,v,yI,1⟩]):=by
 have hcl:n.ch.length≤8:=(zH.1 hF.ch).2.2.1
 have hX:=zbb hF.ch
 have hwl:=(zU.1 hF.want).2.1
 have hTn:=YE hF
 have hmx:=zd5 n.tk
 have hok:=hF.hok
 have hsr:=hF.srt
 have hrg:=hF.rng
 have hse:=hD.srtS
 have hsl:=qt hD.seen
 simp only[yU,zQ.hvS,zQ.seS]at hse hsl
 refine emx [] Tryz.func121 fun XX X G w0=>?_
 repeat'(first|(refine spl ?_ ?_<;>(intro hb;refine ne ?_))|(refine zl hR ?_;clear hR)|refine s1 ?_|exact True.intro|refine rdb [] ?_|refine cad (zb8 n.ch n.id (by omega) hX) ?_|refine cad (Js n.want n.tn (by omega) hTn) ?_|refine lat ?_|refine cal (jc n.hv v hok hsr hrg hv) ?_|refine cal (zfD q bo li ls pe mi hls hmi) ?_|refine cM [(0,0)] [(0,0),(1,1)] (zeL (tkM n t) [] [] v 1 false false false (by simp) hM hv) ?_|((with_reducible refine zL fun R hR=>?_);refine rtf 18 [] [] ?_)|refine cad (zhk n.id n.bt (qh n.seen (QL (getS n.seen v))) v hse (by omega)) ?_|refine cM [(0,0)] [(0,0),(1,1)] (za8 (yU (tkM n t) v) [] [⟨2,v,yI,1⟩] ⟨1,n.id,v,n.bt,(getS (qh n.seen (QL (getS n.seen v))) v).tm,0,0,[]⟩ false false false (by simp)) ?_|(refine s2 ?_;try with_reducible intro R hR)|fail)
 all_goals(first|exact fmx [(0,0),(1,1)]|trace_state)
theorem zvu (n:zQ) (hF:zy n):zA Tryz.prog 121 [.loc 0 0] (yA n false false false) (qI [] []) (.tup []) (yA (tickW n).n false false false) (qI (tickW n).ps (tickW n).es):=by
 have hw:=Qa hF.want
 have hM:zy ((tickN n).tnS (yR n.want n.tn).2.1):=hF.tickN.tnS hw.1
 rcases hN:yR n.want n.tn with⟨v,t,ok⟩
 rw[hN]at hw hM
 have hM2:zy (tkM n t):=hM
 cases ok
 ·have e:tickW n=⟨tickN n,[],[]⟩:=by unfold tickW;rw[hN];rfl
  rw[e];exact zvt n v t hF hN
 ·have hmem:=hw.2 rfl
  have hnd:=(zU.1 hF.want).2.2.2.2.1 _ hmem
  have hv:=Zt (qd.1 hnd.1)
  rcases hf:findH v n.hv with⟨h,held⟩
  cases held
  ·have e:tickW n=⟨tkM n t,[jH (tkM n t) v],[]⟩:=by unfold tickW;rw[hN];simp only;rw[hf];rfl
   rw[e];exact zxU n v t h hF hv hN hf
  ·have hp:hasP v n.hv=true:=by unfold hasP;rw[hf]
   obtain⟨h1,h2,h3⟩:=hF.find hp
   rw[hf]at h1 h2 h3
   simp only at h1 h2 h3
   have hr:=(z0.1 h1).1
   have hll:=(z0.1 h1).2.1
   have ht:=Zx h1
   obtain⟨q,bo,li,ls,pe,mi⟩:=h
   rcases htt:yO ⟨q,bo,li,ls,pe,mi⟩with⟨⟨a1,a2,a3,a4,a5,a6⟩,wh⟩
   have hmi:0≤mi∧mi<3:=by simp only[zcw]at hr;omega
   rw[htt]at ht
   simp only at ht h2 hll
   rcases ht with⟨g0,g1,g2,g3,g4,g5,g6⟩|g
   ·have hk:zy ((tkM n t).hvS (qu n.hv ⟨a1,a2,a3,a4,a5,a6⟩)):=hM2.keep g1
    have hk2:zy ⟨n.id,n.bt,zad n.tk,n.want,t,n.seen,qu n.hv ⟨a1,a2,a3,a4,a5,a6⟩,n.ch.map (Za n.id)⟩:=hk
    have hh:hasP v (qu n.hv ⟨a1,a2,a3,a4,a5,a6⟩)=true:=Zh.2 (.inl (by simp only;rw[g2,h2]))
    have ha1:0≤a1∧a1<16:=by rw[g2,h2];exact qd.1 hnd.1
    have e:tickW n=qP ⟨⟨n.id,n.bt,zad n.tk,n.want,t,n.seen,qu n.hv ⟨a1,a2,a3,a4,a5,a6⟩,n.ch.map (Za n.id)⟩,[],[]⟩ v:=by
     unfold tickW;rw[hN];simp only;rw[hf];simp only;rw[htt];simp only[g0];rfl
    exact zvG n v t q bo li ls pe mi a1 a2 a3 a4 a5 a6 hF hv hN hf (by omega) hmi (by rw[htt,g0]) (by rw[g5];omega) ha1 hM2 hk2 hh _ e
   ·have hD:zy (yU (tkM n t) v):=hM2.drop hnd.1 hnd.2
    have e:tickW n=⟨yU (tkM n t) v,[jH (yU (tkM n t) v) v],[⟨2,v,yI,1⟩]⟩:=by
     unfold tickW;rw[hN];simp only;rw[hf];simp only;rw[htt];simp only[g];rfl
    rw[e]
    exact zwE n v t q bo li ls pe mi a1 a2 a3 a4 a5 a6 wh hF hv hN hf (by omega) hmi htt (by rw[g];rfl) hM2 hD
end
end Go.Proofs.YtbcbnfiedgnfpaaGreat
