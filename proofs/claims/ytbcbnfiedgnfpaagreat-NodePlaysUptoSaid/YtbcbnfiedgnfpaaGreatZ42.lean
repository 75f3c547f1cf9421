import Derived.Test.YtbcbnfiedgnfpaaGreatZ41
import Derived.Test.YtbcbnfiedgnfpaaGreatZ30
set_option linter.unusedSimpArgs false
set_option linter.unusedVariables false
set_option maxRecDepth 100000
set_option maxHeartbeats 2000000
namespace Go.Proofs.YtbcbnfiedgnfpaaGreat
open Go.Dl
attribute [local irreducible] DW yE zY zA zu zky
attribute [local push_cast] zZ qF qC zN zM zD zE qH qE qz Go.Dl.qY yT qy List.mem_cons List.not_mem_nil or_false forall_eq false_implies implies_true
section
attribute [local simp] cv jS
theorem zmZ {l:List Tt} {c:Ch} (h:JL l c=true):(findT c.nm l).2=true:=by simp only[JL,Bool.and_eq_true]at h;exact h.1.1.1
theorem zr3 (n:zQ) (ps:List qO) (es:List ZF) (p:qO) (x:It) (hF:zy n) (ho:JL n.ch x.c=false):zA Tryz.prog 320 [.loc 0 0,ZJ p,gIt x] (jg n) (qI ps es) (.tup []) (jg n) (qI ps es):=by
 have hcl:n.ch.length≤8:=(zH.1 hF.ch).2.2.1
 refine emx [] Tryz.func320 fun XX X G w0=>?_
 repeat'(first|(refine spl ?_ ?_<;>(intro hb;refine ne ?_))|(refine zl hR ?_;clear hR)|refine s1 ?_|exact True.intro|(refine fzx 4 ?_;refine fzx 5 ?_;refine rdb [6] ?_)|refine cad (jf n.ch x.c.nm (by omega)) ?_|refine lat ?_|refine rdb [] ?_|refine cad (Q5 n.ch x.c (by omega)) ?_|(refine s2 ?_;try with_reducible intro R hR)|fail)
 all_goals(first|exact fmx [(0,0),(1,1)]|trace_state)
theorem zu9 (n:zQ) (ps:List qO) (es:List ZF) (p:qO) (x:It) (hF:zy n) (ho:JL n.ch x.c=true) (h4:(((findT x.c.nm n.ch).1.c.kd)==4)=true):zA Tryz.prog 320 [.loc 0 0,ZJ p,gIt x] (jg n) (qI ps es) (.tup []) (jg (n.chS (zew n.id x.c.nm x.mn x.mx n.ch))) (qI ps es):=by
 have hcl:n.ch.length≤8:=(zH.1 hF.ch).2.2.1
 have hfd:=zmZ ho
 refine emx [] Tryz.func320 fun XX X G w0=>?_
 repeat'(first|(refine spl ?_ ?_<;>(intro hb;refine ne ?_))|(refine zl hR ?_;clear hR)|refine s1 ?_|exact True.intro|(refine fzx 4 ?_;refine fzx 5 ?_;refine rdb [6] ?_)|refine cad (jf n.ch x.c.nm (by omega)) ?_|refine lat ?_|refine rdb [] ?_|refine cad (Q5 n.ch x.c (by omega)) ?_|refine cad (zkL n.ch n.id x.c.nm x.mn x.mx (by omega)) ?_|(refine s2 ?_;try with_reducible intro R hR)|fail)
 all_goals(first|exact fmx [(0,0),(1,1)]|trace_state)
theorem zu1 (n:zQ) (ps:List qO) (es:List ZF) (p:qO) (x:It) (hF:zy n) (ho:JL n.ch x.c=true) (h4:(((findT x.c.nm n.ch).1.c.kd)==4)=false) (hk:(p.kd !=3)=true∨x.hr=false) (bo li:Int) (ls:List Ln) (pe:Bool) (mi:Int) (ls2:List Ln) (bb:Bool)
  (hq:(findH p.fr n.hv).1=⟨p.fr,bo,li,ls,pe,mi⟩) (hll:ls.length≤1048576) (hl2:ls2.length≤1048576) (hm:QG n.id ⟨p.fr,bo,li,ls,pe,mi⟩ x.c.nm (x.ve,x.wt,x.fl)=(⟨p.fr,bo,li,ls2,pe,mi⟩,bb)):zA Tryz.prog 320 [.loc 0 0,ZJ p,gIt x] (jg n) (qI ps es) (.tup []) (jg (n.hvS (qu n.hv ⟨p.fr,bo,li,ls2,pe,mi⟩))) (qI ps es):=by
 have hcl:n.ch.length≤8:=(zH.1 hF.ch).2.2.1
 have hfd:=zmZ ho
 have hok:=hF.hok
 rcases hk with hk|hk
 ·refine emx [] Tryz.func320 fun XX X G w0=>?_
  repeat'(first|(refine spl ?_ ?_<;>(intro hb;refine ne ?_))|(refine zl hR ?_;clear hR)|refine s1 ?_|exact True.intro|(refine fzx 4 ?_;refine fzx 5 ?_;refine rdb [6] ?_)|refine cad (jf n.ch x.c.nm (by omega)) ?_|refine lat ?_|refine rdb [8] ?_|refine cad (ql n.hv p.fr hok) ?_|refine rdb [] ?_|refine cad (Q5 n.ch x.c (by omega)) ?_|refine cad (JI n.id p.fr bo li ls pe mi x.c.nm x.ve x.wt x.fl hll) ?_|refine cad (yq n.hv p.fr bo li ls2 pe mi hok hl2) ?_|(refine s2 ?_;try with_reducible intro R hR)|fail)
  all_goals(first|exact fmx [(0,0),(1,1)]|trace_state)
 ·refine emx [] Tryz.func320 fun XX X G w0=>?_
  repeat'(first|(refine spl ?_ ?_<;>(intro hb;refine ne ?_))|(refine zl hR ?_;clear hR)|refine s1 ?_|exact True.intro|(refine fzx 4 ?_;refine fzx 5 ?_;refine rdb [6] ?_)|refine cad (jf n.ch x.c.nm (by omega)) ?_|refine lat ?_|refine rdb [8] ?_|refine cad (ql n.hv p.fr hok) ?_|refine rdb [] ?_|refine cad (Q5 n.ch x.c (by omega)) ?_|refine cad (JI n.id p.fr bo li ls pe mi x.c.nm x.ve x.wt x.fl hll) ?_|refine cad (yq n.hv p.fr bo li ls2 pe mi hok hl2) ?_|(refine s2 ?_;try with_reducible intro R hR)|fail)
  all_goals(first|exact fmx [(0,0),(1,1)]|trace_state)
theorem zu8 (n:zQ) (ps:List qO) (es:List ZF) (p:qO) (x:It) (hF:zy n) (he:es.length≤100000000000) (ho:JL n.ch x.c=true) (h4:(((findT x.c.nm n.ch).1.c.kd)==4)=false) (h3:(p.kd !=3)=false) (hr:x.hr=true) (bo li:Int) (ls:List Ln) (pe:Bool) (mi:Int) (ls2:List Ln) (bb:Bool)
  (hq:(findH p.fr n.hv).1=⟨p.fr,bo,li,ls,pe,mi⟩) (hll:ls.length≤1048576) (hl2:ls2.length≤1048576) (hm:QG n.id ⟨p.fr,bo,li,ls,pe,mi⟩ x.c.nm (x.ve,x.wt,x.fl)=(⟨p.fr,bo,li,ls2,pe,mi⟩,bb)) (hv2:List Hf) (h2:qu n.hv ⟨p.fr,bo,li,ls2,pe,mi⟩=hv2) (hok2:HOk hv2) (inp:Int) (hinp:(findT x.c.nm n.ch).1.inp=inp) (hiw:wr inp=inp)
  (o1 o2:Int) (ho2:Yt n.id inp hv2 x.c.nm p.fr=(o1,o2)) (v w f:Int) (hg:findL x.c.nm ls2=(v,w,f)) (z1 z2 z3 am er:Int) (hz:zbq n.id p.fr v w f o1 x.rs=((z1,z2,z3),am,er)) (hwl:(jB ls2 x.c.nm (z1,z2,z3)).length≤1048576) (w':Wk)
  (hw:w'=(if o2≠0 then⟨⟨n.id,n.bt,n.tk,n.want,n.tn,n.seen,hv2,n.ch⟩,ps,es++[⟨4,p.fr,x.c.nm,0⟩]⟩else if er≠0 then⟨⟨n.id,n.bt,n.tk,n.want,n.tn,n.seen,hv2,n.ch⟩,ps,es++[⟨4,p.fr,x.c.nm,0⟩]⟩else if am≠0 then⟨⟨n.id,n.bt,n.tk,n.want,n.tn,n.seen,qu hv2 ⟨p.fr,bo,li,jB ls2 x.c.nm (z1,z2,z3),pe,mi⟩,n.ch⟩,ps,es++[⟨3,p.fr,x.c.nm,am⟩]⟩else⟨⟨n.id,n.bt,n.tk,n.want,n.tn,n.seen,hv2,n.ch⟩,ps,es⟩)):zA Tryz.prog 320 [.loc 0 0,ZJ p,gIt x] (jg n) (qI ps es) (.tup []) (jg w'.n) (qI w'.ps w'.es):=by
 have hcl:n.ch.length≤8:=(zH.1 hF.ch).2.2.1
 have hfd:=zmZ ho
 have hok:=hF.hok
 refine emx [] Tryz.func320 fun XX X G w0=>?_
 repeat'(first|(refine spl ?_ ?_<;>(intro hb;refine ne ?_))|(refine zl hR ?_;clear hR)|refine s1 ?_|exact True.intro|(refine fzx 4 ?_;refine fzx 5 ?_;refine rdb [6] ?_)|refine cad (jf n.ch x.c.nm (by omega)) ?_|refine lat ?_|refine rdb [8] ?_|refine rdb [13] ?_|refine cad (ql n.hv p.fr hok) ?_|refine cad (zah p.fr bo li ls2 pe mi x.c.nm hl2) ?_|refine cad (zcm n.id p.fr v w f o1 x.rs) ?_|refine rdb [] ?_|refine cad (Q5 n.ch x.c (by omega)) ?_|refine cad (JI n.id p.fr bo li ls pe mi x.c.nm x.ve x.wt x.fl hll) ?_|refine cad (yq n.hv p.fr bo li ls2 pe mi hok hl2) ?_|refine cad (zaG n.id inp hv2 x.c.nm p.fr hok2 hiw) ?_|refine cad (zah p.fr bo li ls2 pe mi x.c.nm hl2) ?_|refine cad (zcm n.id p.fr v w f o1 x.rs) ?_|refine cad (JG p.fr bo li ls2 pe mi x.c.nm z1 z2 z3 hl2) ?_|refine cad (yq hv2 p.fr bo li (jB ls2 x.c.nm (z1,z2,z3)) pe mi hok2 hwl) ?_|(have hgd:(am !=0)=true:=hb;refine cM [(0,0)] [(0,0),(1,1)] (jT ⟨n.id,n.bt,n.tk,n.want,n.tn,n.seen,qu hv2 ⟨p.fr,bo,li,jB ls2 x.c.nm (z1,z2,z3),pe,mi⟩,n.ch⟩ ps es ⟨3,p.fr,x.c.nm,am⟩ (by omega)) ?_)|refine cM [(0,0)] [(0,0),(1,1)] (jT ⟨n.id,n.bt,n.tk,n.want,n.tn,n.seen,hv2,n.ch⟩ ps es ⟨4,p.fr,x.c.nm,0⟩ (by omega)) ?_|(refine s2 ?_;try with_reducible intro R hR)|fail)
 all_goals(simp only[bne_iff_ne,ne_eq,bne_eq_false_iff_eq]at*;simp only[*,not_true_eq_false,not_false_eq_true,if_true,if_false]at hw;subst hw)
 all_goals(first|exact fmx [(0,0),(1,1)]|trace_state)
theorem Jd (w:Wk) (p:qO) (x:It) (hF:zy w.n) (hp:hasP p.fr w.n.hv=true) (hx:itmB x=true) (he:w.es.length≤100000000000):zA Tryz.prog 320 [.loc 0 0,ZJ p,gIt x] (jg w.n) (qI w.ps w.es) (.tup []) (jg (yZ w p.kd p.fr x).n) (qI (yZ w p.kd p.fr x).ps (yZ w p.kd p.fr x).es):=by
 obtain⟨n,ps,es⟩:=w
 simp only at hF hp he
 have hn:=zeG (y8 hx)
 obtain⟨g1,g2,g3⟩:=hF.find hp
 have hll:=jq hF p.fr
 have hfit:=zcq (g:=(x.ve,x.wt,x.fl)) g1 hn
 rcases hq:(findH p.fr n.hv).1 with⟨q,bo,li,ls,pe,mi⟩
 rw[hq]at g2 hll hfit
 simp only at g2 hll
 subst g2
 have hform: ∃ls2 bb,QG n.id ⟨p.fr,bo,li,ls,pe,mi⟩ x.c.nm (x.ve,x.wt,x.fl)=(⟨p.fr,bo,li,ls2,pe,mi⟩,bb)∧ls2.length≤1048576:=by
  unfold QG
  simp only
  split
  ·exact⟨jB ls x.c.nm (x.ve,x.wt,x.fl),_,rfl,za7 _ _ hll⟩
  ·exact⟨ls,_,rfl,hll⟩
 obtain⟨ls2,bb,hm,hl2⟩:=hform
 rw[hm]at hfit
 have hK:=hF.keep hfit
 cases ho:JL n.ch x.c
 ·have e:yZ ⟨n,ps,es⟩ p.kd p.fr x=⟨n,ps,es⟩:=by unfold yZ;rw[if_pos (by simp[ho])]
  rw[e];exact zr3 n ps es p x hF ho
 ·cases h4:((findT x.c.nm n.ch).1.c.kd==4)
  ·have h4': ¬(findT x.c.nm n.ch).1.c.kd=4:=by simpa using h4
   by_cases hk:(p.kd !=3)=true∨x.hr=false
   ·have e:yZ ⟨n,ps,es⟩ p.kd p.fr x=⟨n.hvS (qu n.hv ⟨p.fr,bo,li,ls2,pe,mi⟩),ps,es⟩:=by
     unfold yZ
     rw[if_neg (by simp[ho]),if_neg h4',if_neg (by rcases hk with hk|hk<;>simp_all),hq,hm]
     rfl
    rw[e];exact zu1 n ps es p x hF ho h4 hk bo li ls pe mi ls2 bb hq hll hl2 hm
   ·have h3:(p.kd !=3)=false:=by cases hc:(p.kd !=3)<;>simp_all
    have hr:x.hr=true:=by cases hc:x.hr<;>simp_all
    rcases ho2:Yt n.id (findT x.c.nm n.ch).1.inp (qu n.hv ⟨p.fr,bo,li,ls2,pe,mi⟩) x.c.nm p.fr with⟨o1,o2⟩
    rcases hg:findL x.c.nm ls2 with⟨v,w,f⟩
    rcases hz:zbq n.id p.fr v w f o1 x.rs with⟨⟨z1,z2,z3⟩,am,er⟩
    have hfs:findH p.fr (qu n.hv ⟨p.fr,bo,li,ls2,pe,mi⟩)=(⟨p.fr,bo,li,ls2,pe,mi⟩,true):=zg2 (h:=⟨p.fr,bo,li,ls2,pe,mi⟩) hF.srt
    have e:yZ ⟨n,ps,es⟩ p.kd p.fr x=Yp ⟨n.hvS (qu n.hv ⟨p.fr,bo,li,ls2,pe,mi⟩),ps,es⟩ p.fr x:=by
     unfold yZ
     have hk3:p.kd=3:=by simpa using h3
     rw[if_neg (by simp[ho]),if_neg h4',if_pos (by simp[hk3,hr]),hq,hm]
     rfl
    rw[e]
    refine zu8 n ps es p x hF he ho h4 h3 hr bo li ls pe mi ls2 bb hq hll hl2 hm _ rfl hK.hok _ rfl (inp_wr hF) o1 o2 ho2 v w f hg z1 z2 z3 am er hz (za7 _ _ hl2) _ ?_
    unfold Yp
    simp only[zQ.hvS,ho2,hfs,hg,hz,zaL,YW,Q4]
  ·have e:yZ ⟨n,ps,es⟩ p.kd p.fr x=⟨n.chS (zew n.id x.c.nm x.mn x.mx n.ch),ps,es⟩:=by
    unfold yZ
    rw[if_neg (by simp[ho]),if_pos (by simpa using h4)]
   rw[e];exact zu9 n ps es p x hF ho h4
end
section
attribute [local simp] cv jS qf jJ ZR Yc
theorem Zm {w:Wk} {f:Int→Bool} {l:List Int} {k:Nat} (h:k<l.length):yg w ((l.take (k+1)).filter f)=(if f l[k]then qP (yg w ((l.take k).filter f)) l[k]else yg w ((l.take k).filter f)):=by
 rw[qJ h,List.filter_append,zf0]
 cases hf:f l[k]<;>simp[List.filter,hf,yg]
theorem zkZ (w:Wk) (kd fr:Int) (x:It):(yZ w kd fr x).es.length≤w.es.length+1:=by
 have hb: ∀w:Wk,(Yp w fr x).es.length≤w.es.length+1:=fun w=>by
  unfold Yp
  simp only
  split
  ·simp[YW]
  ·split
   ·simp[YW]
   ·split
    ·simp[YW,Q4]
    ·omega
 unfold yZ
 split
 ·omega
 ·split
  ·simp only;omega
  ·split
   ·exact hb _
   ·simp only[Q4];omega
theorem zmn (kd fr:Int): ∀(a b:List It) (w:Wk),yo w kd fr (a++b)=yo (yo w kd fr a) kd fr b
 |[],b,w=>rfl
 |x::a,b,w=>zmn kd fr a b _
theorem zwD {w:Wk} {kd fr:Int} {l:List It} {k:Nat} (h:k<l.length):yo w kd fr (l.take (k+1))=yZ (yo w kd fr (l.take k)) kd fr l[k]:=by
 rw[qJ h,zmn];rfl
theorem Y7 {w x:Wk} {its:List It} {kd fr:Int} {k:Nat} (hk:k<its.length) (j1:yo w kd fr (its.take k)=x) (j2:zy x.n) (j3:hasP fr x.n.hv=true) (hit:itmB its[k]=true) (j4:x.es.length≤1000000+k) (j5:x.ps.length≤1000000):
  yo w kd fr (its.take (k+1))=yZ x kd fr its[k]∧zy (yZ x kd fr its[k]).n∧hasP fr (yZ x kd fr its[k]).n.hv=true∧(yZ x kd fr its[k]).es.length≤1000000+(k+1)∧(yZ x kd fr its[k]).ps.length≤1000000:=by
 have hst:=zb1 (kd:=kd) j2 j3 hit
 have hes:=zkZ x kd fr its[k]
 have hps:=(zoI (w:=x) (kd:=kd) (fr:=fr) (x:=its[k])).1
 exact⟨by rw[zwD hk,j1],hst.k,by rw[hst.has];exact j3,by omega,by rw[hps];exact j5⟩
abbrev fA (lr bg:Bool) (fr:Int):Int→Bool:=fun q=>lr||(bg&&decide (q=fr))
theorem zvH (n:zQ) (ps:List qO) (es:List ZF) (kd:Int) (fr to bt lf ec el:Int) (its:List It) (hF:zy n) (he:es.length≤100000) (h33:(kd==3)=false) (h44:(kd==4)=false) (hi: ∀x∈its,itmB x=true) (hil:its.length≤8) (hbg:Z4 (findH fr n.hv) bt lf=true) (hv1:List Hf) (w2 w3 w5:Wk) (lr:Bool) (l:List Int) (hL:zA Tryz.prog 319 [.loc 0 0,gIs its] (jg ⟨n.id,n.bt,n.tk,n.want,n.tn,n.seen,hv1,n.ch⟩) (qI ps (es++[⟨1,fr,yI,bt⟩])) (gB lr) (jg w2.n) (qI w2.ps w2.es)) (hK2:zy w2.n) (hh2:hasP fr w2.n.hv=true) (he2:w2.es.length≤1000000) (hp2:w2.ps.length≤1000000) (h3:yo w2 kd fr its=w3) (hK3:zy w3.n) (hh3:hasP fr w3.n.hv=true) (he3:w3.es.length≤2000000) (hp3:w3.ps.length≤2000000) (hl:qg w3.n.hv=l) (hmem: ∀q∈l,hasP q w3.n.hv=true) (hll4:l.length≤16) (h5:yg w3 (l.filter (fA lr true fr))=w5) (h1:qu n.hv ⟨fr,bt,lf,[],false,0⟩=hv1):zA Tryz.prog 255 [.loc 0 0,ZJ ⟨kd,fr,to,bt,lf,ec,el,its⟩] (jg n) (qI ps es) (.tup []) (jg w5.n) (qI w5.ps w5.es):=by
 have hok:=hF.hok
 have hb0:=js n.hv kd fr to bt lf ec el (its.map yS) hok
 rw[hbg]at hb0
 have hok3:=hK3.hok
 have hl4:=Zq w3.n.hv hok3
 rw[hl]at hl4
 have hone1:True:=trivial
 have hone2:True:=trivial
 have hone3:True:=trivial
 have honeL:True:=trivial
 refine emx [] Tryz.func255 fun XX X G w0=>?_
 repeat'(first|(have htkL:True:=honeL;clear honeL;with_reducible intro bq hbq;have hchk:lr=bq:=hbq;clear hchk;subst hbq)|(with_reducible intro bq hbq;have hchk:(findH fr n.hv).2=bq:=hbq;clear hbq hchk)|(rw[if_pos (rfl:2=2)])|((with_reducible refine zF (fun hb=>?_) (fun hb=>?_))<;>try simp only[push_cast,seval, *])|((with_reducible refine zj (fun hb=>?_) (fun hb=>?_))<;>try simp only[push_cast,seval, *])|(refine zl hR ?_;clear hR)|refine zl (by assumption) ?_|refine zm (by decide+kernel) ?_|dsimp only[zr,zd,zi,zw]|((with_reducible first|refine J6 ?_|refine zaI ?_);simp only[zr,zd,zi,zw,push_cast,seval])|(refine fzx 3 ?_;refine rdb [] ?_)|(have htk3:True:=hone3;have hke: ¬k<its.length:=hb;clear hone3;have hxe:w3=x:=(by rw[←h3,←hJ.1,List.take_of_length_le (by omega)]);subst hxe)|(have htk1:True:=hone1;clear hone1;((with_reducible refine zO ?_);refine frx (ι:=Wk) (its.length) (fun k x=>St.ofA [(0,.loc 0 0),(3,.rd (yG ⟨kd,fr,to,bt,lf,ec,el,its⟩)),(4,gB true),(7,gB lr),(8,gI k)] (jg x.n) (aWa x.ps x.es)) (fun k x=>yo w2 kd fr (its.take k)=x∧zy x.n∧hasP fr x.n.hv=true∧x.es.length≤1000000+k∧x.ps.length≤1000000) w2 ?_ (fun k x hJ hk R hR=>?_)))|(have htk2:True:=hone2;clear hone2;((with_reducible refine zO ?_);refine frx (ι:=Wk) (l.length) (fun k x=>St.ofA [(0,.loc 0 0),(3,.rd (yG ⟨kd,fr,to,bt,lf,ec,el,its⟩)),(4,gB true),(7,gB lr),(10,gZ l),(11,gI k)] (jg x.n) (aWa x.ps x.es)) (fun k x=>yg w3 ((l.take k).filter (fA lr true fr))=x∧zy x.n∧(∀q,hasP q x.n.hv=hasP q w3.n.hv)∧x.ps.length≤3000000+k∧x.es.length≤3000000+8*k) w3 ?_ (fun k x hJ hk R hR=>?_)))|(with_reducible refine qn ?_;have hkl:k<its.length:=(by omega);obtain⟨j1,j2,j3,j4,j5⟩:=hJ;have hix:=hi _ (List.getElem_mem hkl);replace j1:=Lib.hid j1;replace j3:=Lib.hid j3;replace hix:=Lib.hid hix)|(with_reducible refine qn ?_;have hkl:k<l.length:=(by omega);obtain⟨j1,j2,j3,j4,j5⟩:=hJ;have hlk:hasP l[k] x.n.hv=true:=(by rw[j3];exact hmem _ (List.getElem_mem hkl));have hlen:=Zd j2 hlk;have hst:=jY j2 hlk;replace j1:=Lib.hid j1;replace j3:=Lib.hid j3;replace hlk:=Lib.hid hlk;replace hlen:=Lib.hid hlen;replace hst:=Lib.hid hst)|((with_reducible refine zL fun R hR=>?_);refine rtl 7 [] ?_)|refine cM [(0,0)] [(0,0),(1,1)] (hL) ?_|refine cM [(0,0)] [(0,0),(1,1)] (Jd x ⟨kd,fr,to,bt,lf,ec,el,its⟩ its[k] j2 j3 hix (by omega)) ?_|refine cM [(0,0)] [(0,0),(1,1)] (ZA w3.n w3.ps w3.es 4 fr bt lf hK3) ?_|refine cad (Qf w3.n fr hK3 hh3) ?_|refine cM [(0,0)] [(0,0),(1,1)] (ZU w3.n w3.ps w3.es ⟨4,w3.n.id,fr,w3.n.bt,(getS w3.n.seen fr).tm,bt,lf,qa w3.n fr false⟩ (by omega)) ?_|refine cal (hl4) ?_|refine cM [(0,0)] [(0,0),(1,1)] (zaa x l[k] j2 hlk (by omega) (by omega)) ?_|refine fnx (yZ x kd fr its[k]) ?_ ?_|(refine qG (qP x l[k]) ?_ ?_ ?_ ?_;(focus((refine zp rfl ?_ ?_ ?_<;>simp[*]);done));(focus(simp only[push_cast,seval, *];done)))|(refine qG (x) ?_ ?_ ?_ ?_;(focus((refine zp rfl ?_ ?_ ?_<;>simp[*]);done));(focus(simp only[push_cast,seval, *];done)))|refine rdb [] ?_|refine rdb [5] ?_|refine cad (ql n.hv fr hok) ?_|refine lat ?_|refine cad (hb0) ?_|refine cal (zbK fr bt lf) ?_|refine cM [(0,0)] [(0,0),(1,1)] (jT n ps es ⟨1,fr,yI,bt⟩ (by omega)) ?_|refine cad (yq n.hv fr bt lf [] false 0 hok (by simp)) ?_|(with_reducible refine And.intro (by first|omega|(constructor<;>omega)|(unfold maxLen;omega)|(simp only[List.length_append,List.length_map,List.length_cons,List.length_nil,List.length_take,List.length_drop,maxLen];omega)) ?_)|(with_reducible first|refine zf fun R hR=>?_|refine qn ?_|refine Qg ?_|refine Ql ?_|refine jE ?_)|(refine yk hT (by decide) ?_;simp only[push_cast,seval, *])|refine zc rfl ?_|refine zb rfl ?_|(refine zg rfl (fun hb=>?_) (fun hb=>?_)<;>simp only[hb])|((with_reducible refine zL fun R hR=>?_);refine yk hT (by decide) ?_;simp only[push_cast,seval, *]))
 all_goals(first|omega|exact⟨rfl,hK2,hh2,by omega,by omega⟩|exact Y7 hkl j1 j2 j3 hix j4 j5|exact⟨rfl,hK3,fun _=>rfl,by first|omega|(simp only[List.length_append,List.length_cons,List.length_nil];omega),by first|omega|(simp only;omega)⟩|skip)
 all_goals(first|(obtain⟨j1,j2,j3,j4,j5⟩:=hJ;rw[List.take_of_length_le (by omega)]at j1;have e5:x=w5:=j1.symm.trans h5;subst e5;(try rw[if_pos (rfl:0=0)]);exact fmx [(0,0),(1,1)])|skip)
 all_goals(
  have j32: ∀q,hasP q x.n.hv=hasP q w3.n.hv:=j3
  have j12:yg w3 ((l.take k).filter _)=x:=j1
  have hst2:J4 x.n (qP x l[k]).n:=hst
  have hl2:(qP x l[k]).ps.length=x.ps.length+1∧(qP x l[k]).es.length≤x.es.length+8:=hlen
  first|exact⟨by rw[Zm hkl,j12,if_pos (by simp_all)],hst2.k,fun q=>(hst2.has q).trans (j32 q),by omega,by omega⟩|exact⟨by rw[Zm hkl,j12,if_neg (by simp_all)],j2,j32,by omega,by omega⟩)
theorem zvs (n:zQ) (ps:List qO) (es:List ZF) (kd:Int) (fr to bt lf ec el:Int) (its:List It) (hF:zy n) (he:es.length≤100000) (h33:(kd==3)=false) (h44:(kd==4)=false) (hi: ∀x∈its,itmB x=true) (hil:its.length≤8) (hbg:Z4 (findH fr n.hv) bt lf=false) (bo li:Int) (ls:List Ln) (pe:Bool) (mi:Int) (hq:(findH fr n.hv).1=⟨fr,bo,li,ls,pe,mi⟩) (hll:ls.length≤1048576) (hv1:List Hf) (w2 w3 w5:Wk) (lr:Bool) (l:List Int) (hL:zA Tryz.prog 319 [.loc 0 0,gIs its] (jg ⟨n.id,n.bt,n.tk,n.want,n.tn,n.seen,hv1,n.ch⟩) (qI ps es) (gB lr) (jg w2.n) (qI w2.ps w2.es)) (hK2:zy w2.n) (hh2:hasP fr w2.n.hv=true) (he2:w2.es.length≤1000000) (hp2:w2.ps.length≤1000000) (h3:yo w2 kd fr its=w3) (hK3:zy w3.n) (hh3:hasP fr w3.n.hv=true) (he3:w3.es.length≤2000000) (hp3:w3.ps.length≤2000000) (hl:qg w3.n.hv=l) (hmem: ∀q∈l,hasP q w3.n.hv=true) (hll4:l.length≤16) (h5:yg w3 (l.filter (fA lr false fr))=w5) (h1:qu n.hv ⟨fr,bo,li,ls,pe,0⟩=hv1):zA Tryz.prog 255 [.loc 0 0,ZJ ⟨kd,fr,to,bt,lf,ec,el,its⟩] (jg n) (qI ps es) (.tup []) (jg w5.n) (qI w5.ps w5.es):=by
 have hok:=hF.hok
 have hb0:=js n.hv kd fr to bt lf ec el (its.map yS) hok
 rw[hbg]at hb0
 have hok3:=hK3.hok
 have hl4:=Zq w3.n.hv hok3
 rw[hl]at hl4
 have hone1:True:=trivial
 have hone2:True:=trivial
 have hone3:True:=trivial
 have honeL:True:=trivial
 refine emx [] Tryz.func255 fun XX X G w0=>?_
 repeat'(first|(have htkL:True:=honeL;clear honeL;with_reducible intro bq hbq;have hchk:lr=bq:=hbq;clear hchk;subst hbq)|(with_reducible intro bq hbq;have hchk:(findH fr n.hv).2=bq:=hbq;clear hbq hchk)|(rw[if_pos (rfl:2=2)])|((with_reducible refine zF (fun hb=>?_) (fun hb=>?_))<;>try simp only[push_cast,seval, *])|((with_reducible refine zj (fun hb=>?_) (fun hb=>?_))<;>try simp only[push_cast,seval, *])|(refine zl hR ?_;clear hR)|refine zl (by assumption) ?_|refine zm (by decide+kernel) ?_|dsimp only[zr,zd,zi,zw]|((with_reducible first|refine J6 ?_|refine zaI ?_);simp only[zr,zd,zi,zw,push_cast,seval])|(refine fzx 3 ?_;refine rdb [] ?_)|(have htk3:True:=hone3;have hke: ¬k<its.length:=hb;clear hone3;have hxe:w3=x:=(by rw[←h3,←hJ.1,List.take_of_length_le (by omega)]);subst hxe)|(have htk1:True:=hone1;clear hone1;((with_reducible refine zO ?_);refine frx (ι:=Wk) (its.length) (fun k x=>St.ofA [(0,.loc 0 0),(3,.rd (yG ⟨kd,fr,to,bt,lf,ec,el,its⟩)),(4,gB false),(7,gB lr),(8,gI k)] (jg x.n) (aWa x.ps x.es)) (fun k x=>yo w2 kd fr (its.take k)=x∧zy x.n∧hasP fr x.n.hv=true∧x.es.length≤1000000+k∧x.ps.length≤1000000) w2 ?_ (fun k x hJ hk R hR=>?_)))|(have htk2:True:=hone2;clear hone2;((with_reducible refine zO ?_);refine frx (ι:=Wk) (l.length) (fun k x=>St.ofA [(0,.loc 0 0),(3,.rd (yG ⟨kd,fr,to,bt,lf,ec,el,its⟩)),(4,gB false),(7,gB lr),(10,gZ l),(11,gI k)] (jg x.n) (aWa x.ps x.es)) (fun k x=>yg w3 ((l.take k).filter (fA lr false fr))=x∧zy x.n∧(∀q,hasP q x.n.hv=hasP q w3.n.hv)∧x.ps.length≤3000000+k∧x.es.length≤3000000+8*k) w3 ?_ (fun k x hJ hk R hR=>?_)))|(with_reducible refine qn ?_;have hkl:k<its.length:=(by omega);obtain⟨j1,j2,j3,j4,j5⟩:=hJ;have hix:=hi _ (List.getElem_mem hkl);replace j1:=Lib.hid j1;replace j3:=Lib.hid j3;replace hix:=Lib.hid hix)|(with_reducible refine qn ?_;have hkl:k<l.length:=(by omega);obtain⟨j1,j2,j3,j4,j5⟩:=hJ;have hlk:hasP l[k] x.n.hv=true:=(by rw[j3];exact hmem _ (List.getElem_mem hkl));have hlen:=Zd j2 hlk;have hst:=jY j2 hlk;replace j1:=Lib.hid j1;replace j3:=Lib.hid j3;replace hlk:=Lib.hid hlk;replace hlen:=Lib.hid hlen;replace hst:=Lib.hid hst)|((with_reducible refine zL fun R hR=>?_);refine rtl 7 [] ?_)|refine cM [(0,0)] [(0,0),(1,1)] (hL) ?_|refine cM [(0,0)] [(0,0),(1,1)] (Jd x ⟨kd,fr,to,bt,lf,ec,el,its⟩ its[k] j2 j3 hix (by omega)) ?_|refine cM [(0,0)] [(0,0),(1,1)] (ZA w3.n w3.ps w3.es 4 fr bt lf hK3) ?_|refine cad (Qf w3.n fr hK3 hh3) ?_|refine cM [(0,0)] [(0,0),(1,1)] (ZU w3.n w3.ps w3.es ⟨4,w3.n.id,fr,w3.n.bt,(getS w3.n.seen fr).tm,bt,lf,qa w3.n fr false⟩ (by omega)) ?_|refine cal (hl4) ?_|refine cM [(0,0)] [(0,0),(1,1)] (zaa x l[k] j2 hlk (by omega) (by omega)) ?_|refine fnx (yZ x kd fr its[k]) ?_ ?_|(refine qG (qP x l[k]) ?_ ?_ ?_ ?_;(focus((refine zp rfl ?_ ?_ ?_<;>simp[*]);done));(focus(simp only[push_cast,seval, *];done)))|(refine qG (x) ?_ ?_ ?_ ?_;(focus((refine zp rfl ?_ ?_ ?_<;>simp[*]);done));(focus(simp only[push_cast,seval, *];done)))|refine rdb [] ?_|refine rdb [5] ?_|refine cad (ql n.hv fr hok) ?_|refine lat ?_|refine cad (hb0) ?_|refine cal (Jz fr bo li ls pe mi (by omega)) ?_|refine cad (yq n.hv fr bo li ls pe 0 hok hll) ?_|(with_reducible refine And.intro (by first|omega|(constructor<;>omega)|(unfold maxLen;omega)|(simp only[List.length_append,List.length_map,List.length_cons,List.length_nil,List.length_take,List.length_drop,maxLen];omega)) ?_)|(with_reducible first|refine zf fun R hR=>?_|refine qn ?_|refine Qg ?_|refine Ql ?_|refine jE ?_)|(refine yk hT (by decide) ?_;simp only[push_cast,seval, *])|refine zc rfl ?_|refine zb rfl ?_|(refine zg rfl (fun hb=>?_) (fun hb=>?_)<;>simp only[hb])|((with_reducible refine zL fun R hR=>?_);refine yk hT (by decide) ?_;simp only[push_cast,seval, *]))
 all_goals(first|omega|exact⟨rfl,hK2,hh2,by omega,by omega⟩|exact Y7 hkl j1 j2 j3 hix j4 j5|exact⟨rfl,hK3,fun _=>rfl,by first|omega|(simp only[List.length_append,List.length_cons,List.length_nil];omega),by first|omega|(simp only;omega)⟩|skip)
 all_goals(first|(obtain⟨j1,j2,j3,j4,j5⟩:=hJ;rw[List.take_of_length_le (by omega)]at j1;have e5:x=w5:=j1.symm.trans h5;subst e5;(try rw[if_pos (rfl:0=0)]);exact fmx [(0,0),(1,1)])|skip)
 all_goals(
  have j32: ∀q,hasP q x.n.hv=hasP q w3.n.hv:=j3
  have j12:yg w3 ((l.take k).filter _)=x:=j1
  have hst2:J4 x.n (qP x l[k]).n:=hst
  have hl2:(qP x l[k]).ps.length=x.ps.length+1∧(qP x l[k]).es.length≤x.es.length+8:=hlen
  first|exact⟨by rw[Zm hkl,j12,if_pos (by simp_all)],hst2.k,fun q=>(hst2.has q).trans (j32 q),by omega,by omega⟩|exact⟨by rw[Zm hkl,j12,if_neg (by simp_all)],j2,j32,by omega,by omega⟩)
end
end Go.Proofs.YtbcbnfiedgnfpaaGreat
