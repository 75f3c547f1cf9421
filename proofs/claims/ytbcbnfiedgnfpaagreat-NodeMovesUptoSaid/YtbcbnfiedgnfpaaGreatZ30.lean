import Derived.Test.YtbcbnfiedgnfpaaGreatZ29
set_option linter.unusedSimpArgs false
set_option linter.unusedVariables false
set_option maxRecDepth 100000
set_option maxHeartbeats 2000000
namespace Go.Proofs.YtbcbnfiedgnfpaaGreat
open Go.Dl
attribute [local irreducible] DW yE zY zA zu zky
attribute [local push_cast] zZ qF qC zN zM zD zE qH qE qz Go.Dl.qY yT qy List.mem_cons List.not_mem_nil or_false forall_eq false_implies implies_true
section
attribute [local simp] cv jS
theorem zzO (n:zQ) (ps:List qO) (es:List ZF) (fr:Int) (x:It) (b1 b2 b3:Bool) (hF:zy n) (he:es.length≤100000000000) (hp:0≤fr∧fr<16) (bo li:Int) (ls:List Ln) (pe:Bool) (mi:Int) (hq:(findH fr n.hv).1=⟨fr,bo,li,ls,pe,mi⟩) (hll:ls.length≤1048576) (hsl:Y8 ls)
  (o1 o2:Int) (ho:rstN n x.c.nm fr=(o1,o2)) (v w f:Int) (hg:findL x.c.nm ls=(v,w,f)) (z:jQ) (am er:Int) (hz:zbq n.id fr v w f o1 x.rs=(z,am,er)) (hwl:(jB ls x.c.nm z).length≤1048576) (w':Wk)
  (hw:w'=(if o2≠0 then⟨n,ps,es++[⟨4,fr,x.c.nm,0⟩]⟩else if er≠0 then⟨n,ps,es++[⟨4,fr,x.c.nm,0⟩]⟩else if am≠0 then⟨n.hvS (qu n.hv ⟨fr,bo,li,jB ls x.c.nm z,pe,mi⟩),ps,es++[⟨3,fr,x.c.nm,am⟩]⟩else⟨n,ps,es⟩)):
  zA Tryz.prog 278 [.loc 0 0,gI fr,gIt x] (yA n b1 b2 b3) (qI ps es) (.tup []) (yA w'.n b1 b2 b3) (qI ps w'.es):=by
 have hnk:=hF.nok
 obtain⟨z1,z2,z3⟩:=z
 refine emx [] Tryz.func278 fun XX X G w0=>?_
 repeat'(first|(refine spl ?_ ?_<;>(intro hb;refine ne ?_))|(refine zl hR ?_;clear hR)|refine s1 ?_|exact True.intro|refine rdb [] ?_|refine rdb [10] ?_|refine cad (JS fr bo li ls pe mi x.c.nm hll hsl) ?_|refine cad (zh3 n.id fr v w f o1 x.rs) ?_|refine cal (zbp n x.c.nm fr hnk) ?_|refine cM [(0,0)] [(0,0),(1,1)] (zo5 n ps es fr x.c.nm b1 b2 b3 (by omega)) ?_|refine cM [(0,0)] [(0,0),(1,1)] (zcd n ps es fr b1 b2 b3 hF (Zt hp)) ?_|refine cad (JS fr bo li ls pe mi x.c.nm hll hsl) ?_|refine cad (zh3 n.id fr v w f o1 x.rs) ?_|refine lat ?_|(with_reducible refine qR rfl ?_)|(with_reducible refine qT ?_)|(dsimp only[YT])|refine cal (zag fr bo li ls pe mi x.c.nm z1 z2 z3 hll) ?_|refine cM [(0,0)] [(0,0),(1,1)] (YD n ps es ⟨fr,bo,li,jB ls x.c.nm (z1,z2,z3),pe,mi⟩ b1 b2 b3 hF hwl hp) ?_|refine cM [(0,0)] [(0,0),(1,1)] (JP ⟨n.id,n.bt,n.tk,n.want,n.tn,n.seen,qu n.hv ⟨fr,bo,li,jB ls x.c.nm (z1,z2,z3),pe,mi⟩,n.ch⟩ ps es ⟨3,fr,x.c.nm,am⟩ b1 b2 b3 (by omega)) ?_|(refine s2 ?_;try with_reducible intro R hR)|fail)
 all_goals(simp only[bne_iff_ne,ne_eq,bne_eq_false_iff_eq]at*;simp only[*,not_true_eq_false,not_false_eq_true,if_true,if_false]at hw;subst hw)
 all_goals(first|exact fmx [(0,0),(1,1)]|trace_state)
theorem zyT (w:Wk) (fr:Int) (x:It) (b1 b2 b3:Bool) (hF:zy w.n) (hh:hasP fr w.n.hv=true) (he:w.es.length≤100000000000) (hr:rstN w.n x.c.nm fr=Yt w.n.id (findT x.c.nm w.n.ch).1.inp w.n.hv x.c.nm fr):zA Tryz.prog 278 [.loc 0 0,gI fr,gIt x] (yA w.n b1 b2 b3) (qI w.ps w.es) (.tup []) (yA (Yp w fr x).n b1 b2 b3) (qI (Yp w fr x).ps (Yp w fr x).es):=by
 obtain⟨n,ps,es⟩:=w
 simp only at hF hh he hr
 obtain⟨hf1,hf2,hf3⟩:=hF.find hh
 have hpp:=qd.1 (Zi hF hh).1
 have hll:=jq hF fr
 have hsl:=zcn hF fr
 have hps:(Yp ⟨n,ps,es⟩ fr x).ps=ps:=by
  unfold Yp;simp only
  split
  ·rfl
  ·split
   ·rfl
   ·split<;>rfl
 rcases hq:(findH fr n.hv).1 with⟨q,bo,li,ls,pe,mi⟩
 rw[hq]at hf2 hll hsl
 simp only at hf2 hll hsl
 subst hf2
 rcases ho:rstN n x.c.nm q with⟨o1,o2⟩
 rcases hg:findL x.c.nm ls with⟨v,w,f⟩
 rcases hz:zbq n.id q v w f o1 x.rs with⟨z,am,er⟩
 have e:=zzO n ps es q x b1 b2 b3 hF he hpp bo li ls pe mi hq hll hsl o1 o2 ho v w f hg z am er hz (za7 _ _ hll) (Yp ⟨n,ps,es⟩ q x) (by
  rw[ho]at hr
  unfold Yp
  simp only[←hr,hq,hg,hz,zaL]
  rfl)
 rw[hps];exact e
end
end Go.Proofs.YtbcbnfiedgnfpaaGreat
