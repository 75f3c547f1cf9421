import Derived.Test.YtbcbnfiedgnfpaaGreatZ27
import Derived.Test.YtbcbnfiedgnfpaaGreatZ40
import Derived.Test.YtbcbnfiedgnfpaaGreatZ31
set_option linter.unusedSimpArgs false
set_option linter.unusedVariables false
set_option maxRecDepth 100000
set_option maxHeartbeats 2000000
namespace Go.Proofs.YtbcbnfiedgnfpaaGreat
open Go.Dl
attribute [local irreducible] DW yE zY zA zu zky
attribute [local push_cast] zZ qF qC zN zM zD zE qH qE qz Go.Dl.qY yT qy List.mem_cons List.not_mem_nil or_false forall_eq false_implies implies_true
section
attribute [local simp] cv jS jA
theorem zmg (n:zQ) (ps:List qO) (es:List ZF) (c:Ch) (he:es.length≤1000000000000) (hF:HOk n.hv):zA Tryz.prog 241 [.loc 0 0,gC c] (jg n) (qI ps es) (.tup []) (jg (n.hvS (Qy n.hv c.nm))) (qI ps (es++[⟨5,0,c.nm,c.ep⟩])):=by
 refine emx [] Tryz.func241 fun XX X G w0=>?_
 repeat'(first|(refine spl ?_ ?_<;>(intro hb;refine ne ?_))|(refine zl hR ?_;clear hR)|refine s1 ?_|exact True.intro|refine rdb [] ?_|((with_reducible refine zL fun R hR=>?_);refine rdb [] ?_)|refine cad (zgG n.hv c.nm hF) ?_|refine lat ?_|refine cM [(0,0)] [(0,0),(1,1)] (jT ⟨n.id,n.bt,n.tk,n.want,n.tn,n.seen,Qy n.hv c.nm,n.ch⟩ ps es ⟨5,0,c.nm,c.ep⟩ he) ?_|(refine s2 ?_;try with_reducible intro R hR)|fail)
 all_goals(first|exact fmx [(0,0),(1,1)]|trace_state)
abbrev bRp (n:zQ) (p:qO):BL:=[(0,200,cRk n),(6,30,cPk p)]
theorem zzc (n:zQ) (hv2:List Hf) (its:List It) (bo li:Int) (ls:List Ln) (pe:Bool) (mi:Int) (ps:List qO) (es:List ZF) (p:Int) (hF:zy n) (he:es.length≤100000000000) (hp:ps.length≤100000000000)
  (hpp:0≤p∧p<16) (hq:(findH p n.hv).1=⟨p,bo,li,ls,pe,mi⟩) (hll:ls.length≤1048576) (h2:qu n.hv ⟨p,bo,li,ls,true,mi⟩=hv2) (hI:qa ⟨n.id,n.bt,n.tk,n.want,n.tn,n.seen,hv2,n.ch⟩ p true=its) (hA:zy ⟨n.id,n.bt,n.tk,n.want,n.tn,n.seen,hv2,n.ch⟩) (hah:hasP p hv2=true) (hlen:its.length≤8):
  zA Tryz.prog 243 [.loc 0 0,gI p] (jg n) (qI ps es) (.tup []) (jg ⟨n.id,n.bt,n.tk,n.want,n.tn,n.seen,hv2,n.ch⟩) (qI (ps++[⟨3,n.id,p,n.bt,(getS n.seen p).tm,bo,li,its⟩]) (es++its.flatMap (zbc p))):=by
 have hok:=hF.hok
 refine emx [] Tryz.func243 fun XX X G w0=>?_
 repeat'(first|(refine spl ?_ ?_<;>(intro hb;refine ne ?_))|(refine zl hR ?_;clear hR)|refine s1 ?_|exact True.intro|refine cal (ql n.hv p hok) ?_|(((with_reducible refine zO ?_);refine frx (ι:=List ZF) (its.length) (fun k x=>St.ofA [(0,.loc 0 0),(1,gI p),(6,.loc 6 0),(7,gI k)] (bRp ⟨n.id,n.bt,n.tk,n.want,n.tn,n.seen,hv2,n.ch⟩ ⟨3,n.id,p,n.bt,(getS n.seen p).tm,bo,li,its⟩) (aWa (ps++[⟨3,n.id,p,n.bt,(getS n.seen p).tm,bo,li,its⟩]) x)) (fun k x=>es++(its.take k).flatMap (zbc p)=x∧x.length≤100000000000+k) es ?_ (fun k x hJ hk R hR=>?_)))|(with_reducible refine qn ?_;have hkl:k<its.length:=(by omega))|refine rdb [] ?_|((with_reducible refine zL fun R hR=>?_);refine rdb [] ?_)|refine cad (zmP p bo li ls pe mi (by omega)) ?_|refine cad (yq n.hv p bo li ls true mi hok hll) ?_|refine lat ?_|refine cM [(0,0)] [(0,0),(1,1)] (ZA ⟨n.id,n.bt,n.tk,n.want,n.tn,n.seen,hv2,n.ch⟩ ps es 3 p bo li hA) ?_|refine cal (zmW ⟨n.id,n.bt,n.tk,n.want,n.tn,n.seen,hv2,n.ch⟩ p hA hah) ?_|refine cM [(0,0)] [(0,0),(1,1)] (ZU ⟨n.id,n.bt,n.tk,n.want,n.tn,n.seen,hv2,n.ch⟩ ps es ⟨3,n.id,p,n.bt,(getS n.seen p).tm,bo,li,its⟩ (by omega)) ?_|refine cal (JH _) ?_|refine cM [(0,0)] [(0,0),(1,1)] (jT ⟨n.id,n.bt,n.tk,n.want,n.tn,n.seen,hv2,n.ch⟩ (ps++[⟨3,n.id,p,n.bt,(getS n.seen p).tm,bo,li,its⟩]) x ⟨4,p,its[k].c.nm,0⟩ (by omega)) ?_|refine fnx (x) ?_ ?_|refine fnx (x++[⟨4,p,its[k].c.nm,0⟩]) ?_ ?_|(refine s2 ?_;try with_reducible intro R hR)|fail)
 all_goals(first|(have hJ1:=hJ.1;rw[List.take_of_length_le (by omega)]at hJ1;subst hJ1;(try rw[if_pos (rfl:0=0)]);exact fmx [(0,0),(1,1)])|skip)
 all_goals(refine gz ?_;grind[zsQ,zbc])
theorem zaa (w:Wk) (p:Int) (hF:zy w.n) (hh:hasP p w.n.hv=true) (he:w.es.length≤100000000000) (hp:w.ps.length≤100000000000):zA Tryz.prog 243 [.loc 0 0,gI p] (jg w.n) (qI w.ps w.es) (.tup []) (jg (qP w p).n) (qI (qP w p).ps (qP w p).es):=by
 obtain⟨n,ps,es⟩:=w
 simp only at hF hh he hp
 obtain⟨hf1,hf2,hf3⟩:=hF.find hh
 have hpp:=qd.1 (Zi hF hh).1
 have hA:=hF.ask hh
 have hll:=jq hF p
 have hit:=Z6 (J0 n p) p true
 have hcl:(J0 n p).ch.length≤8:=(zH.1 hA.ch).2.2.1
 rcases hq:(findH p n.hv).1 with⟨q,bo,li,ls,pe,mi⟩
 rw[hq]at hf2 hll
 simp only at hf2 hll
 subst hf2
 have h1:J0 n q=⟨n.id,n.bt,n.tk,n.want,n.tn,n.seen,qu n.hv ⟨q,bo,li,ls,true,mi⟩,n.ch⟩:=by
  unfold J0 Yj;rw[hq];rfl
 have hah:hasP q (qu n.hv ⟨q,bo,li,ls,true,mi⟩)=true:=by rw[ziO (by exact hh)];exact hh
 rw[h1]at hA hit hcl
 have e:=zzc n _ _ bo li ls pe mi ps es q hF he hp hpp hq hll rfl rfl hA hah (by rw[hit];exact hcl)
 have h3:qP ⟨n,ps,es⟩ q=⟨⟨n.id,n.bt,n.tk,n.want,n.tn,n.seen,qu n.hv ⟨q,bo,li,ls,true,mi⟩,n.ch⟩,ps++[⟨3,n.id,q,n.bt,(getS n.seen q).tm,bo,li,qa ⟨n.id,n.bt,n.tk,n.want,n.tn,n.seen,qu n.hv ⟨q,bo,li,ls,true,mi⟩,n.ch⟩ q true⟩],es++(qa ⟨n.id,n.bt,n.tk,n.want,n.tn,n.seen,qu n.hv ⟨q,bo,li,ls,true,mi⟩,n.ch⟩ q true).flatMap (zbc q)⟩:=by
  simp only[qP];rw[h1,hq];rfl
 rw[h3];exact e
theorem zrI (w:Wk) (its:List It) (hF:zy w.n) (hfc: ∀x∈its,jC x.c=true) (hil:its.length≤8) (he:w.es.length≤10000000000):zA Tryz.prog 319 [.loc 0 0,gIs its] (jg w.n) (qI w.ps w.es) (gB (qU w false its).2) (jg (qU w false its).1.n) (qI (qU w false its).1.ps (qU w false its).1.es):=by
 refine emx [.tmp 4] Tryz.func319 fun XX X G w0=>?_
 repeat'(first|(refine spl ?_ ?_<;>(intro hb;refine ne ?_))|(refine zl hR ?_;clear hR)|refine s1 ?_|exact True.intro|(((with_reducible refine zO ?_);refine frx (ι:=Wk×Bool) (its.length) (fun k x=>St.ofA [(0,.loc 0 0),(1,gIs its),(5,gB x.2),(6,gI k)] (jg x.1.n) (aWa x.1.ps x.1.es)) (fun k x=>qU w false (its.take k)=x∧zy x.1.n∧x.1.es.length≤10000000000+k) (w,false) ?_ (fun k x hJ hk R hR=>?_)))|(with_reducible refine qn ?_;have hkl:k<its.length:=(by omega);obtain⟨j1,j2,j3⟩:=hJ;have hfx:=hfc _ (List.getElem_mem hkl);have hcs:=zH.1 j2.ch;have hcl:=hcs.2.2.1;have hsr:=hcs.2.2.2.1;have hkx:=j2.hok;replace hcs:=Lib.hid hcs;replace hfx:=Lib.hid hfx)|refine rdb [] ?_|refine cad (ziC x.1.n.ch its[k].c (by omega)) ?_|refine lat ?_|refine cM [(0,0)] [(0,0),(1,1)] (zmg ⟨x.1.n.id,x.1.n.bt,x.1.n.tk,x.1.n.want,x.1.n.tn,x.1.n.seen,x.1.n.hv,(Qw x.1.n.ch its[k].c).1⟩ x.1.ps x.1.es its[k].c (by omega) hkx) ?_|refine fnx (x) ?_ ?_|refine fnx ((jA ⟨x.1.n.chS (Qw x.1.n.ch its[k].c).1,x.1.ps,x.1.es⟩ its[k].c,true)) ?_ ?_|(refine s2 ?_;try with_reducible intro R hR)|fail)
 all_goals(first|omega|(obtain⟨j1,j2,j3⟩:=hJ;rw[List.take_of_length_le (by omega)]at j1;rw[j1];exact fmx [(0,0),(1,1)])|skip)
 ·exact⟨rfl,hF,by omega⟩
 ·have hfx2:jC its[k].c=true:=hfx
  exact⟨by rw[zi8 hkl,j1,if_pos hb],j2.lrn1 (w:=x.1) hfx2,by simp only[jA,List.length_append,List.length_cons,List.length_nil];omega⟩
 ·exact⟨by rw[zi8 hkl,j1,if_neg (by rw[hb];decide)],j2,by omega⟩
end
end Go.Proofs.YtbcbnfiedgnfpaaGreat
