import Derived.Test.YtbcbnfiedgnfpaaGreatZ27
import Derived.Test.YtbcbnfiedgnfpaaGreatZ28
set_option linter.unusedSimpArgs false
set_option linter.unusedVariables false
set_option maxRecDepth 100000
set_option maxHeartbeats 2000000
namespace Go.Proofs.YtbcbnfiedgnfpaaGreat
open Go.Dl
attribute [local irreducible] DW yE zY zA zu zky
attribute [local push_cast] zZ qF qC zN zM zD zE qH qE qz Go.Dl.qY yT qy List.mem_cons List.not_mem_nil or_false forall_eq false_implies implies_true
section
attribute [local simp] cv jS
theorem zsQ {p:Int} {l:List It} {k:Nat} (h:k<l.length):(l.take (k+1)).flatMap (zbc p)=(l.take k).flatMap (zbc p)++zbc p l[k]:=by
 rw[qJ h,List.flatMap_append];simp only[List.flatMap_cons,List.flatMap_nil,List.append_nil]
theorem zvk (p:Int) (x:It):(zbc p x).length≤1:=by unfold zbc;split<;>simp
theorem zl0 (p:Int): ∀l:List It,(l.flatMap (zbc p)).length≤l.length
 |[]=>by simp
 |x::l=>by have:=zl0 p l;have:=zvk p x;simp only[List.flatMap_cons,List.length_append,List.length_cons];omega
abbrev gIs (l:List It):V:=.c (.f (.l 19 (l.map yS)))
abbrev aWa (ps:List qO) (es:List ZF):AL:=[(0,0,30,8,ps.map yG),(1,1,38,4,es.map zeq)]
theorem zy0 (n:zQ) (hv2:List Hf) (its:List It) (bo li:Int) (ls:List Ln) (pe:Bool) (mi:Int) (ps:List qO) (es:List ZF) (p:Int) (b1 b2 b3:Bool) (hF:zy n) (he:es.length≤100000000000) (hp:ps.length≤100000000000)
  (hpp:0≤p∧p<16) (hq:(findH p n.hv).1=⟨p,bo,li,ls,pe,mi⟩) (hll:ls.length≤1048576) (h2:qu n.hv ⟨p,bo,li,ls,true,mi⟩=hv2) (hI:qa ⟨n.id,n.bt,n.tk,n.want,n.tn,n.seen,hv2,n.ch⟩ p true=its) (hA:zy ⟨n.id,n.bt,n.tk,n.want,n.tn,n.seen,hv2,n.ch⟩) (hah:hasP p hv2=true) (hlen:its.length≤8):
  zA Tryz.prog 189 [.loc 0 0,gI p] (yA n b1 b2 b3) (qI ps es) (.tup []) (yA ⟨n.id,n.bt,n.tk,n.want,n.tn,n.seen,hv2,n.ch⟩ b1 b2 b3) (qI (ps++[⟨3,n.id,p,n.bt,(getS n.seen p).tm,bo,li,its⟩]) (es++its.flatMap (zbc p))):=by
 refine emx [] Tryz.func189 fun XX X G w0=>?_
 repeat'(first|(refine spl ?_ ?_<;>(intro hb;refine ne ?_))|(refine zl hR ?_;clear hR)|refine s1 ?_|exact True.intro|refine cM [(0,0)] [(0,0),(1,1)] (zcd n ps es p b1 b2 b3 hF (Zt hpp)) ?_|refine cal (zkA _ _ _ _ _ _ hll) ?_|refine cM [(0,0)] [(0,0),(1,1)] (YD n ps es ⟨p,bo,li,ls,true,mi⟩ b1 b2 b3 hF hll hpp) ?_|refine cM [(0,0)] [(0,0),(1,1)] (zc3 ⟨n.id,n.bt,n.tk,n.want,n.tn,n.seen,hv2,n.ch⟩ ps es 3 ⟨p,bo,li,ls,true,mi⟩ b1 b2 b3 hA) ?_|refine cal (zlZ ⟨n.id,n.bt,n.tk,n.want,n.tn,n.seen,hv2,n.ch⟩ p hA hah) ?_|refine cM [(0,0)] [(0,0),(1,1)] (za8 ⟨n.id,n.bt,n.tk,n.want,n.tn,n.seen,hv2,n.ch⟩ ps es ⟨3,n.id,p,n.bt,(getS n.seen p).tm,bo,li,its⟩ b1 b2 b3 (by omega)) ?_|(((with_reducible refine zW ?_);refine rgx (ι:=List ZF) (its.length) (fun k x=>St.ofA [(0,.loc 0 0),(1,gI p),(29,gIs its),(30,gI its.length),(31,gI k)] (yA ⟨n.id,n.bt,n.tk,n.want,n.tn,n.seen,hv2,n.ch⟩ b1 b2 b3) (aWa (ps++[⟨3,n.id,p,n.bt,(getS n.seen p).tm,bo,li,its⟩]) x)) (fun k x=>es++(its.take k).flatMap (zbc p)=x∧x.length≤100000000000+k) es ?_ (fun k x hJ hk=>?_) (fun x hJ=>?_)))|refine cal (zdG _) ?_|refine rdb [] ?_|refine cM [(0,0)] [(0,0),(1,1)] (zo5 ⟨n.id,n.bt,n.tk,n.want,n.tn,n.seen,hv2,n.ch⟩ (ps++[⟨3,n.id,p,n.bt,(getS n.seen p).tm,bo,li,its⟩]) x p its[k].c.nm b1 b2 b3 (by omega)) ?_|refine rnx (x) ?_|refine rnx (x++[⟨4,p,its[k].c.nm,0⟩]) ?_|(refine s2 ?_;try with_reducible intro R hR)|fail)
 all_goals(first|(have hJ1:=hJ.1;simp only[List.take_length]at hJ1;subst hJ1;exact fmx [(0,0),(1,1)])|skip)
 all_goals(refine gz ?_;grind[zsQ,zbc])
theorem znF (w:Wk) (p:Int) (b1 b2 b3:Bool) (hF:zy w.n) (hh:hasP p w.n.hv=true) (he:w.es.length≤100000000000) (hp:w.ps.length≤100000000000):zA Tryz.prog 189 [.loc 0 0,gI p] (yA w.n b1 b2 b3) (qI w.ps w.es) (.tup []) (yA (qP w p).n b1 b2 b3) (qI (qP w p).ps (qP w p).es):=by
 obtain⟨n,ps,es⟩:=w
 simp only at hF hh he hp
 obtain⟨hf1,hf2,hf3⟩:=hF.find hh
 have hpp:=qd.1 (Zi hF hh).1
 have hA:=hF.ask hh
 have hll:=jq hF p
 have hit:=Z6 (J0 n p) p true
 have hcl:(J0 n p).ch.length≤8:=(zH.1 hA.ch).2.2.1
 rcases hq:(findH p n.hv).1 with⟨q,bo,li,ls,pe,mi⟩
 rw[hq]at hf2 hll
 simp only at hf2 hll
 subst hf2
 have h1:J0 n q=⟨n.id,n.bt,n.tk,n.want,n.tn,n.seen,qu n.hv ⟨q,bo,li,ls,true,mi⟩,n.ch⟩:=by
  unfold J0 Yj;rw[hq];rfl
 have hah:hasP q (qu n.hv ⟨q,bo,li,ls,true,mi⟩)=true:=by rw[ziO (by exact hh)];exact hh
 rw[h1]at hA hit hcl
 have e:=zy0 n _ _ bo li ls pe mi ps es q b1 b2 b3 hF he hp hpp hq hll rfl rfl hA hah (by rw[hit];exact hcl)
 have h3:qP ⟨n,ps,es⟩ q=⟨⟨n.id,n.bt,n.tk,n.want,n.tn,n.seen,qu n.hv ⟨q,bo,li,ls,true,mi⟩,n.ch⟩,ps++[⟨3,n.id,q,n.bt,(getS n.seen q).tm,bo,li,qa ⟨n.id,n.bt,n.tk,n.want,n.tn,n.seen,qu n.hv ⟨q,bo,li,ls,true,mi⟩,n.ch⟩ q true⟩],es++(qa ⟨n.id,n.bt,n.tk,n.want,n.tn,n.seen,qu n.hv ⟨q,bo,li,ls,true,mi⟩,n.ch⟩ q true).flatMap (zbc q)⟩:=by
  simp only[qP];rw[h1,hq];rfl
 rw[h3];exact e
end
section
attribute [local simp] cv jS
theorem zf0 (w:Wk): ∀(a b:List Int),yg w (a++b)=yg (yg w a) b
 |[],b=>rfl
 |p::a,b=>zf0 (qP w p) a b
theorem zoX {w:Wk} {l:List Int} {k:Nat} (h:k<l.length):yg w (l.take (k+1))=qP (yg w (l.take k)) l[k]:=by
 rw[qJ h,zf0];rfl
theorem Zd {w:Wk} {p:Int} (hF:zy w.n) (hh:hasP p w.n.hv=true):(qP w p).ps.length=w.ps.length+1∧(qP w p).es.length≤w.es.length+8:=by
 have hcl:(J0 w.n p).ch.length≤8:=(zH.1 (hF.ask hh).ch).2.2.1
 have h1:=zl0 p (qa (J0 w.n p) p true)
 rw[Z6]at h1
 have h2:(qP w p).es=w.es++(qa (J0 w.n p) p true).flatMap (zbc p):=rfl
 refine⟨by simp[qP],?_⟩
 rw[h2,List.length_append];omega
theorem zg6 (w:Wk) (b1 b2 b3:Bool) (hF:zy w.n) (he:w.es.length≤10000000000) (hp:w.ps.length≤10000000000):zA Tryz.prog 146 [.loc 0 0] (yA w.n b1 b2 b3) (qI w.ps w.es) (.tup []) (yA (yg w (qg w.n.hv)).n b1 b2 b3) (qI (yg w (qg w.n.hv)).ps (yg w (qg w.n.hv)).es):=by
 have hok:=hF.hok
 have hhl:=jW hF.hv
 have hmem: ∀q∈qg w.n.hv,hasP q w.n.hv=true:=fun q hq=>yP.2 hq
 have hln:(qg w.n.hv).length≤16:=by unfold qg;rw[List.length_map];exact hhl
 obtain⟨l,hl⟩: ∃l,qg w.n.hv=l:=⟨_,rfl⟩
 rw[hl]at hmem hln ⊢
 refine emx [] Tryz.func146 fun XX X G w0=>?_
 repeat'(first|(refine spl ?_ ?_<;>(intro hb;refine ne ?_))|(refine zl hR ?_;clear hR)|refine s1 ?_|exact True.intro|refine cal (zmh w.n.hv hok) ?_|(((with_reducible refine zW ?_);refine rgx (ι:=Wk) (l.length) (fun k x=>St.ofA [(0,.loc 0 0),(9,gZ l),(10,gI l.length),(11,gI k)] (yA x.n b1 b2 b3) (aWa x.ps x.es)) (fun k x=>yg w (l.take k)=x∧zy x.n∧(∀q,hasP q x.n.hv=hasP q w.n.hv)∧x.ps.length≤10000000000+k∧x.es.length≤10000000000+8*k) w ?_ (fun k x hJ hk=>?_) (fun x hJ=>?_));rotate_left;obtain⟨j1,j2,j3,j4,j5⟩:=hJ;have hlk:hasP l[k] x.n.hv=true:=(by rw[j3];exact hmem _ (List.getElem_mem hk));have hlen:=Zd j2 hlk;have hst:=jY j2 hlk;replace hst:=Lib.hid hst;replace j3:=Lib.hid j3;replace hlen:=Lib.hid hlen)|refine cM [(0,0)] [(0,0),(1,1)] (znF x l[k] b1 b2 b3 j2 (hlk) (by omega) (by omega)) ?_|refine rnx (qP x l[k]) ?_|(refine s2 ?_;try with_reducible intro R hR)|fail)
 ·have hst2:J4 x.n (qP x l[k]).n:=hst
  have hl2:(qP x l[k]).ps.length=x.ps.length+1∧(qP x l[k]).es.length≤x.es.length+8:=hlen
  have j32: ∀q,hasP q x.n.hv=hasP q w.n.hv:=j3
  exact⟨by rw[zoX hk,j1],hst2.k,fun q=>(hst2.has q).trans (j32 q),by omega,by omega⟩
 ·have hJ1:=hJ.1
  simp only[List.take_length]at hJ1
  rw[hJ1]
  exact fmx [(0,0),(1,1)]
 ·exact⟨rfl,hF,fun _=>rfl,by omega,by omega⟩
theorem zhF {n:zQ} (hF:zy n) (q:Int):0≤(findH q n.hv).1.peer∧(findH q n.hv).1.peer<16:=by
 cases hq:hasP q n.hv
 ·rw[zfy hq];simp
 ·exact hF.rng _ (hF.find hq).2.2
attribute [local simp] qf jJ ZR Yc
theorem zwK (n:zQ) (ps:List qO) (es:List ZF) (p:qO) (b1 b2 b3:Bool) (he:es.length≤1000000000000) (hF:zy n) (hp:nodeB p.fr=true) (hpb:ziy (findH p.fr n.hv) p.bt p.lf=true):zA Tryz.prog 200 [.loc 0 0,ZJ p] (yA n b1 b2 b3) (qI ps es) (.tup []) (yA (yU n p.fr) b1 b2 false) (qI ps (es++[⟨2,p.fr,yI,2⟩])):=by
 have hok:=hF.hok
 have hc:=zhN n.hv p.kd p.fr p.to p.bt p.lf p.ec p.el (p.its.map yS) hok
 rw[zdD hF.srt hF.rng (Zt (qd.1 hp)),hpb]at hc
 have hi:=Zt (qd.1 hp)
 refine emx [] Tryz.func200 fun XX X G w0=>?_
 repeat'(first|(refine spl ?_ ?_<;>(intro hb;refine ne ?_))|(refine zl hR ?_;clear hR)|refine s1 ?_|exact True.intro|refine rdb [] ?_|((with_reducible refine zL fun R hR=>?_);refine rdb [] ?_)|refine cad (hc) ?_|refine lat ?_|refine cM [(0,0)] [(0,0),(1,1)] (zeL n ps es p.fr 2 b1 b2 false he hF hi) ?_|(refine s2 ?_;try with_reducible intro R hR)|fail)
 all_goals(first|exact fmx [(0,0),(1,1)]|trace_state)
theorem zw4 (n:zQ) (ps:List qO) (es:List ZF) (p:qO) (b1 b2 b3:Bool) (he:es.length≤1000000000000) (hF:zy n) (hp:nodeB p.fr=true) (hpb:ziy (findH p.fr n.hv) p.bt p.lf=false):zA Tryz.prog 200 [.loc 0 0,ZJ p] (yA n b1 b2 b3) (qI ps es) (.tup []) (yA (n) b1 b2 true) (qI ps (es)):=by
 have hok:=hF.hok
 have hc:=zhN n.hv p.kd p.fr p.to p.bt p.lf p.ec p.el (p.its.map yS) hok
 rw[zdD hF.srt hF.rng (Zt (qd.1 hp)),hpb]at hc
 have hi:=Zt (qd.1 hp)
 refine emx [] Tryz.func200 fun XX X G w0=>?_
 repeat'(first|(refine spl ?_ ?_<;>(intro hb;refine ne ?_))|(refine zl hR ?_;clear hR)|refine s1 ?_|exact True.intro|refine rdb [] ?_|((with_reducible refine zL fun R hR=>?_);refine rdb [] ?_)|refine cad (hc) ?_|refine lat ?_|refine cM [(0,0)] [(0,0),(1,1)] (zeL n ps es p.fr 2 b1 b2 false he hF hi) ?_|(refine s2 ?_;try with_reducible intro R hR)|fail)
 all_goals(first|exact fmx [(0,0),(1,1)]|trace_state)
theorem zvP (n:zQ) (ps:List qO) (es:List ZF) (p:qO) (b1 b2 b3:Bool) (he:es.length≤100000000000) (hF:zy n) (hp:nodeB p.fr=true) (hbg:Z4 (findH p.fr n.hv) p.bt p.lf=true):zA Tryz.prog 201 [.loc 0 0,ZJ p] (yA n b1 b2 b3) (qI ps es) (.tup []) (yA (qf ⟨n,ps,es⟩ p.kd p.fr p.bt p.lf).n true b2 b3) (qI ps (qf ⟨n,ps,es⟩ p.kd p.fr p.bt p.lf).es):=by
 have hok:=hF.hok
 have hc:=zgj n.hv p.kd p.fr p.to p.bt p.lf p.ec p.el (p.its.map yS) hok
 rw[zdD hF.srt hF.rng (Zt (qd.1 hp)),hbg]at hc
 have hi:=Zt (qd.1 hp)
 have hpp:=qd.1 hp
 have hll:=jq hF p.fr
 have hpr:=zhF hF p.fr
 by_cases h4:p.kd=4
 ·rw[h4]at hc
  refine emx [] Tryz.func201 fun XX X G w0=>?_
  repeat'(first|(refine spl ?_ ?_<;>(intro hb;refine ne ?_))|(refine zl hR ?_;clear hR)|refine s1 ?_|exact True.intro|refine rdb [] ?_|((with_reducible refine zL fun R hR=>?_);refine rdb [] ?_)|refine cad (hc) ?_|refine lat ?_|refine cal (zec _ _ _) ?_|refine cM [(0,0)] [(0,0),(1,1)] (JP n ps es ⟨1,p.fr,yI,p.bt⟩ true b2 b3 (by omega)) ?_|refine cal (zaq _ _ _ [] _ _ (by simp)) ?_|refine cM [(0,0)] [(0,0),(1,1)] (YD n ps (es++[⟨1,p.fr,yI,p.bt⟩]) ⟨p.fr,p.bt,p.lf,[],false,0⟩ true b2 b3 hF (by simp) hpp) ?_|(refine s2 ?_;try with_reducible intro R hR)|fail)
  all_goals(first|exact fmx [(0,0),(1,1)]|trace_state)
 ·have h4b:(p.kd==4)=false:=by simpa using h4
  refine emx [] Tryz.func201 fun XX X G w0=>?_
  repeat'(first|(refine spl ?_ ?_<;>(intro hb;refine ne ?_))|(refine zl hR ?_;clear hR)|refine s1 ?_|exact True.intro|refine rdb [] ?_|((with_reducible refine zL fun R hR=>?_);refine rdb [] ?_)|refine cad (hc) ?_|refine lat ?_|refine cal (zec _ _ _) ?_|refine cM [(0,0)] [(0,0),(1,1)] (JP n ps es ⟨1,p.fr,yI,p.bt⟩ true b2 b3 (by omega)) ?_|refine cM [(0,0)] [(0,0),(1,1)] (YD n ps (es++[⟨1,p.fr,yI,p.bt⟩]) ⟨p.fr,p.bt,p.lf,[],false,0⟩ true b2 b3 hF (by simp) hpp) ?_|(refine s2 ?_;try with_reducible intro R hR)|fail)
  all_goals(first|exact fmx [(0,0),(1,1)]|trace_state)
theorem zwY (n:zQ) (ps:List qO) (es:List ZF) (p:qO) (b1 b2 b3:Bool) (he:es.length≤100000000000) (hF:zy n) (hp:nodeB p.fr=true) (hbg:Z4 (findH p.fr n.hv) p.bt p.lf=false):zA Tryz.prog 201 [.loc 0 0,ZJ p] (yA n b1 b2 b3) (qI ps es) (.tup []) (yA (qf ⟨n,ps,es⟩ p.kd p.fr p.bt p.lf).n false b2 b3) (qI ps (qf ⟨n,ps,es⟩ p.kd p.fr p.bt p.lf).es):=by
 have hok:=hF.hok
 have hc:=zgj n.hv p.kd p.fr p.to p.bt p.lf p.ec p.el (p.its.map yS) hok
 rw[zdD hF.srt hF.rng (Zt (qd.1 hp)),hbg]at hc
 have hi:=Zt (qd.1 hp)
 have hpp:=qd.1 hp
 have hll:=jq hF p.fr
 have hpr:=zhF hF p.fr
 by_cases h4:p.kd=4
 ·rw[h4]at hc
  refine emx [] Tryz.func201 fun XX X G w0=>?_
  repeat'(first|(refine spl ?_ ?_<;>(intro hb;refine ne ?_))|(refine zl hR ?_;clear hR)|refine s1 ?_|exact True.intro|refine rdb [] ?_|((with_reducible refine zL fun R hR=>?_);refine rdb [] ?_)|refine cad (hc) ?_|refine lat ?_|refine cM [(0,0)] [(0,0),(1,1)] (zcd n ps es p.fr false b2 b3 hF hi) ?_|refine cal (zef (findH p.fr n.hv).1.peer (findH p.fr n.hv).1.boot (findH p.fr n.hv).1.life (findH p.fr n.hv).1.lines (findH p.fr n.hv).1.pend (findH p.fr n.hv).1.miss hll) ?_|refine cal (zaq (findH p.fr n.hv).1.peer (findH p.fr n.hv).1.boot (findH p.fr n.hv).1.life (findH p.fr n.hv).1.lines (findH p.fr n.hv).1.pend 0 hll) ?_|refine cM [(0,0)] [(0,0),(1,1)] (YD n ps es ⟨(findH p.fr n.hv).1.peer,(findH p.fr n.hv).1.boot,(findH p.fr n.hv).1.life,(findH p.fr n.hv).1.lines,false,0⟩ false b2 b3 hF hll hpr) ?_|(refine s2 ?_;try with_reducible intro R hR)|fail)
  all_goals(first|exact fmx [(0,0),(1,1)]|trace_state)
 ·have h4b:(p.kd==4)=false:=by simpa using h4
  refine emx [] Tryz.func201 fun XX X G w0=>?_
  repeat'(first|(refine spl ?_ ?_<;>(intro hb;refine ne ?_))|(refine zl hR ?_;clear hR)|refine s1 ?_|exact True.intro|refine rdb [] ?_|((with_reducible refine zL fun R hR=>?_);refine rdb [] ?_)|refine cad (hc) ?_|refine lat ?_|refine cM [(0,0)] [(0,0),(1,1)] (zcd n ps es p.fr false b2 b3 hF hi) ?_|refine cal (zef (findH p.fr n.hv).1.peer (findH p.fr n.hv).1.boot (findH p.fr n.hv).1.life (findH p.fr n.hv).1.lines (findH p.fr n.hv).1.pend (findH p.fr n.hv).1.miss hll) ?_|refine cM [(0,0)] [(0,0),(1,1)] (YD n ps es ⟨(findH p.fr n.hv).1.peer,(findH p.fr n.hv).1.boot,(findH p.fr n.hv).1.life,(findH p.fr n.hv).1.lines,(findH p.fr n.hv).1.pend,0⟩ false b2 b3 hF hll hpr) ?_|(refine s2 ?_;try with_reducible intro R hR)|fail)
  all_goals(first|exact fmx [(0,0),(1,1)]|trace_state)
end
end Go.Proofs.YtbcbnfiedgnfpaaGreat
