import Derived.Test.YtbcbnfiedgnfpaaGreatZ41
import Derived.Test.YtbcbnfiedgnfpaaGreatZ34
import Derived.Test.YtbcbnfiedgnfpaaGreatZ37
set_option linter.unusedSimpArgs false
set_option linter.unusedVariables false
set_option maxRecDepth 100000
set_option maxHeartbeats 2000000
namespace Go.Proofs.YtbcbnfiedgnfpaaGreat
open Go.Dl
attribute [local irreducible] DW yE zY zA zu zky
attribute [local push_cast] zZ qF qC zN zM zD zE qH qE qz Go.Dl.qY yT qy List.mem_cons List.not_mem_nil or_false forall_eq false_implies implies_true
section
attribute [local simp] cv jS
abbrev cRq (n:zQ):List C:=[.f (eI n.id),.f (eI n.bt),.f (eI n.tk),.f (.l 1 (n.want.map Z3)),.f (eI n.tn),.f (.l 4 (n.seen.map QD)),.f (.l 6 (n.hv.map jI)),.f (.l 16 (n.ch.map QO)),.o 100,.o 101]
abbrev bRq (b:Nat) (n:zQ):BL:=[(b,200,cRq n)]
abbrev aRq (ps:List qO) (es:List ZF):RL:=[(100,30,8,ps.map yG),(101,38,4,es.map zeq)]
theorem zt1 (n:zQ) (ps:List qO) (es:List ZF):zA Tryz.prog 179 [.loc 0 0] (jg n) (qI ps es) (.tup [(true,cNd n),(false,[.o 0]),(false,[.o 1])]) (jg n) (qI ps es):=by
 refine emx [.cell 2 27,.tmp 3,.tmp 4] Tryz.func179 fun XX X G w0=>?_
 repeat'(first|(refine spl ?_ ?_<;>(intro hb;refine ne ?_))|(refine zl hR ?_;clear hR)|refine s1 ?_|exact True.intro|refine rdb [] ?_|refine rex [] ?_|(refine s2 ?_;try with_reducible intro R hR)|fail)
 all_goals(first|exact fmx [(0,0),(1,1)]|trace_state)
theorem zj7 (n:zQ) (v:Int) (hF:zy n):zu Tryz.prog 100 [jv n,gI v] (rWE (zd0 n v)):=by
 have hnk:=hF.nok
 have hwl:=(zU.1 hF.want).2.1
 refine enx [.cell 4 27,.tmp 5,.tmp 6,.tmp 7] Tryz.func100 fun X w0=>?_
 repeat'(first|(refine spl ?_ ?_<;>(intro hb;refine ne ?_))|(refine zl hR ?_;clear hR)|refine s1 ?_|exact True.intro|refine cal (qw n hnk) ?_|refine cal (zkc n.id n.want v (by omega)) ?_|refine rdb [] ?_|refine rex [] ?_|(refine s2 ?_;try with_reducible intro R hR)|fail)
 all_goals(simp only[zd0,zQ.waS,List.map_nil])
 all_goals(refine gz ?_;grind[JU])
theorem znu (n:zQ) (nm:ByteArray) (v:Int) (hF:zy n):zu Tryz.prog 104 [jv n,gS nm,gI v] (rNE (zer n nm v)):=by
 have hnk:=hF.nok
 have hcl:n.ch.length≤8:=(zH.1 hF.ch).2.2.1
 have hs:=znj n.ch n.id nm v (by omega)
 have hse:(QF n.id nm v n.ch).2≠0→(QF n.id nm v n.ch).1=n.ch:=by
  unfold QF
  split
  ·intro;rfl
  ·split
   ·intro h;exact absurd rfl h
   ·intro;rfl
 rcases hS:QF n.id nm v n.ch with⟨l,e⟩
 rw[hS]at hs hse
 have hS2:zer n nm v=(⟨n.id,n.bt,n.tk,n.want,n.tn,n.seen,n.hv,l⟩,e):=by unfold zer;rw[hS];rfl
 rw[hS2]
 replace hS:=Lib.hid hS;replace hS2:=Lib.hid hS2;simp only at hse;replace hse:=Lib.hid hse
 refine enx [.cell 6 27,.tmp 7] Tryz.func104 fun X w0=>?_
 repeat'(first|(refine spl ?_ ?_<;>(intro hb;refine ne ?_))|(refine zl hR ?_;clear hR)|refine s1 ?_|exact True.intro|refine cal (qw n hnk) ?_|refine cal (hs) ?_|refine rdb [] ?_|refine rex [] ?_|(refine s2 ?_;try with_reducible intro R hR)|fail)
 all_goals(first|(have h2:l=n.ch:=hse (by simpa using hb);simp[h2];done)|trace_state)
theorem zwh (n:zQ) (nm:ByteArray) (hF:zy n) (hv2:List Hf) (es2:List ZF) (w':Wk) (l:List Int) (hm:madeL ⟨n,[],[]⟩ nm n.ch=⟨⟨n.id,n.bt,n.tk,n.want,n.tn,n.seen,hv2,n.ch⟩,[],es2⟩) (hK:zy ⟨n.id,n.bt,n.tk,n.want,n.tn,n.seen,hv2,n.ch⟩) (he2:es2.length≤100) (hl:qg hv2=l) (hll:l.length≤16) (hmem: ∀q∈l,hasP q hv2=true) (hw:yg ⟨⟨n.id,n.bt,n.tk,n.want,n.tn,n.seen,hv2,n.ch⟩,[],es2⟩ l=w'):zA Tryz.prog 175 [.loc 0 0,gS nm] (jg n) (qI [] []) (.tup []) (jg w'.n) (qI w'.ps w'.es):=by
 have hcl:n.ch.length≤8:=(zH.1 hF.ch).2.2.1
 have hok2:=hK.hok
 have hl4:=Zq hv2 hok2
 rw[hl]at hl4
 have hone1:True:=trivial
 have hone2:True:=trivial
 have hone3:True:=trivial
 refine emx [] Tryz.func175 fun XX X G w0=>?_
 repeat'(first|(refine spl ?_ ?_<;>(intro hb;refine ne ?_))|(refine zl hR ?_;clear hR)|refine s1 ?_|exact True.intro|(rw[if_pos (rfl:2=2)])|(have htk3:True:=hone3;have hke: ¬k<n.ch.length:=hb;clear hone3;have hxe:(hv2,es2)=x:=(by have h1:=hJ.1;rw[List.take_of_length_le (by omega),hm]at h1;injection h1 with h1 h2 h3;injection h1 with g1 g2 g3 g4 g5 g6 g7 g8;exact Prod.ext g7 h3);subst hxe)|(have htk1:True:=hone1;clear hone1;((with_reducible refine zO ?_);refine frx (ι:=List Hf×List ZF) (n.ch.length) (fun k x=>St.ofA [(0,.loc 0 0),(1,gS nm),(4,gI k)] (jg ⟨n.id,n.bt,n.tk,n.want,n.tn,n.seen,x.1,n.ch⟩) (aWa [] x.2)) (fun k x=>madeL ⟨n,[],[]⟩ nm (n.ch.take k)=⟨⟨n.id,n.bt,n.tk,n.want,n.tn,n.seen,x.1,n.ch⟩,[],x.2⟩∧zy ⟨n.id,n.bt,n.tk,n.want,n.tn,n.seen,x.1,n.ch⟩∧x.2.length≤k) (n.hv,([]:List ZF)) ?_ (fun k x hJ hk R hR=>?_)))|(have htk2:True:=hone2;clear hone2;((with_reducible refine zO ?_);refine frx (ι:=Wk) (l.length) (fun k x=>St.ofA [(0,.loc 0 0),(5,gZ l),(6,gI k)] (jg x.n) (aWa x.ps x.es)) (fun k x=>yg ⟨⟨n.id,n.bt,n.tk,n.want,n.tn,n.seen,hv2,n.ch⟩,[],es2⟩ (l.take k)=x∧zy x.n∧(∀q,hasP q x.n.hv=hasP q hv2)∧x.ps.length≤100+k∧x.es.length≤100+8*k) (⟨⟨n.id,n.bt,n.tk,n.want,n.tn,n.seen,hv2,n.ch⟩,[],es2⟩:Wk) ?_ (fun k x hJ hk R hR=>?_)))|(with_reducible refine qn ?_;have hkl:k<n.ch.length:=(by omega);obtain⟨j1,j2,j3⟩:=hJ;have hkx:=j2.hok;replace j1:=Lib.hid j1)|(with_reducible refine qn ?_;have hkl:k<l.length:=(by omega);obtain⟨j1,j2,j3,j4,j5⟩:=hJ;have hlk:hasP l[k] x.n.hv=true:=(by rw[j3];exact hmem _ (List.getElem_mem hkl));have hlen:=Zd j2 hlk;have hst:=jY j2 hlk;replace j1:=Lib.hid j1;replace j3:=Lib.hid j3;replace hlk:=Lib.hid hlk;replace hlen:=Lib.hid hlen;replace hst:=Lib.hid hst)|refine rdb [] ?_|refine cM [(0,0)] [(0,0),(1,1)] (zmg ⟨n.id,n.bt,n.tk,n.want,n.tn,n.seen,x.1,n.ch⟩ [] x.2 n.ch[k].c (by omega) hkx) ?_|refine cal (hl4) ?_|refine cM [(0,0)] [(0,0),(1,1)] (zaa x l[k] j2 hlk (by omega) (by omega)) ?_|refine fnx (x) ?_ ?_|refine fnx ((Qy x.1 n.ch[k].c.nm,x.2++[⟨5,0,n.ch[k].c.nm,n.ch[k].c.ep⟩])) ?_ ?_|refine fnx (qP x l[k]) ?_ ?_|(refine s2 ?_;try with_reducible intro R hR)|fail)
 all_goals(first|omega|exact⟨rfl,hF,by simp⟩|exact⟨rfl,hK,fun _=>rfl,by simp,by omega⟩|skip)
 all_goals(first|(obtain⟨j1,j2,j3,j4,j5⟩:=hJ;rw[List.take_of_length_le (by omega)]at j1;have e5:x=w':=j1.symm.trans hw;subst e5;(try rw[if_pos (rfl:0=0)]);exact fmx [(0,0),(1,1)])|skip)
 all_goals(first|(have j12:yg ⟨⟨n.id,n.bt,n.tk,n.want,n.tn,n.seen,hv2,n.ch⟩,[],es2⟩ (l.take k)=x:=j1;have j32: ∀q,hasP q x.n.hv=hasP q hv2:=j3;have hst2:J4 x.n (qP x l[k]).n:=hst;have hl2:(qP x l[k]).ps.length=x.ps.length+1∧(qP x l[k]).es.length≤x.es.length+8:=hlen;exact⟨by rw[zoX hkl,j12],hst2.k,fun q=>(hst2.has q).trans (j32 q),by omega,by omega⟩)|(have j12:madeL ⟨n,[],[]⟩ nm (n.ch.take k)=⟨⟨n.id,n.bt,n.tk,n.want,n.tn,n.seen,x.1,n.ch⟩,[],x.2⟩:=j1;first|exact⟨by rw[zcx hkl,j12,if_pos hb];rfl,j2.frsh,by simp only[List.length_append,List.length_cons,List.length_nil];omega⟩|exact⟨by rw[zcx hkl,j12,if_neg (by rw[hb];decide)],j2,by omega⟩)|trace_state)
theorem JB (nm:ByteArray): ∀(l:List Tt) (n:zQ) (hv:List Hf) (es:List ZF),zy ⟨n.id,n.bt,n.tk,n.want,n.tn,n.seen,hv,n.ch⟩→∃hv2 es2,madeL ⟨⟨n.id,n.bt,n.tk,n.want,n.tn,n.seen,hv,n.ch⟩,[],es⟩ nm l=⟨⟨n.id,n.bt,n.tk,n.want,n.tn,n.seen,hv2,n.ch⟩,[],es2⟩∧zy ⟨n.id,n.bt,n.tk,n.want,n.tn,n.seen,hv2,n.ch⟩∧es2.length≤es.length+l.length
 |[],n,hv,es,hF=>⟨hv,es,rfl,hF,by simp⟩
 | x::l,n,hv,es,hF=>by
  rw[madeL]
  split
  ·obtain⟨hv2,es2,h1,h2,h3⟩:=JB nm l n (Qy hv x.c.nm) (es++[⟨5,0,x.c.nm,x.c.ep⟩]) hF.frsh
   exact⟨hv2,es2,h1,h2,by simp only[List.length_append,List.length_cons,List.length_nil]at h3 ⊢;omega⟩
  ·obtain⟨hv2,es2,h1,h2,h3⟩:=JB nm l n hv es hF
   exact⟨hv2,es2,h1,h2,by simp only[List.length_cons];omega⟩
theorem zoz (n:zQ) (nm:ByteArray) (hF:zy n):zA Tryz.prog 175 [.loc 0 0,gS nm] (jg n) (qI [] []) (.tup []) (jg (yg (madeL ⟨n,[],[]⟩ nm n.ch) (qg (madeL ⟨n,[],[]⟩ nm n.ch).n.hv)).n) (qI (yg (madeL ⟨n,[],[]⟩ nm n.ch) (qg (madeL ⟨n,[],[]⟩ nm n.ch).n.hv)).ps (yg (madeL ⟨n,[],[]⟩ nm n.ch) (qg (madeL ⟨n,[],[]⟩ nm n.ch).n.hv)).es):=by
 have hcl:n.ch.length≤8:=(zH.1 hF.ch).2.2.1
 obtain⟨hv2,es2,h1,h2,h3⟩:=JB nm n.ch n n.hv [] hF
 have hhl:=jW h2.hv
 have h1':madeL ⟨n,[],[]⟩ nm n.ch=⟨⟨n.id,n.bt,n.tk,n.want,n.tn,n.seen,hv2,n.ch⟩,[],es2⟩:=h1
 rw[h1']
 exact zwh n nm hF hv2 es2 _ _ h1' h2 (by simp at h3;omega) rfl (by unfold qg;rw[List.length_map];exact hhl) (fun q hq=>yP.2 hq) rfl
theorem zpo (n:zQ) (nm:ByteArray) (l:List Tt):ZG n nm (l,0)=(yg (madeL ⟨⟨n.id,n.bt,n.tk,n.want,n.tn,n.seen,n.hv,l⟩,[],[]⟩ nm l) (qg (madeL ⟨⟨n.id,n.bt,n.tk,n.want,n.tn,n.seen,n.hv,l⟩,[],[]⟩ nm l).n.hv),0):=by
 unfold ZG;rw[if_neg (by simp)];rfl
theorem zpS (n:zQ) (nm:ByteArray) (l:List Tt) (e:Int) (h:(e==0)=false):ZG n nm (l,e)=(⟨n,[],[]⟩,e):=by
 unfold ZG;rw[if_pos (by simpa using h)]
theorem zme (n:zQ) (nm:ByteArray) (kd sc:Int) (hF:zy n) (l:List Tt) (e:Int) (hc:zu Tryz.prog 174 [j8 n.ch,gI n.id,gS nm,gI kd,gI sc] (zgF (l,e))) (h:(e==0)=false):zu Tryz.prog 102 [jv n,gS nm,gI kd,gI sc] (rWE (⟨n,[],[]⟩,e)):=by
 have hnk:=hF.nok
 have hne:(e !=0)=true:=by simp[bne,h]
 refine enx [.cell 8 27,.tmp 9,.tmp 10,.tmp 11] Tryz.func102 fun X w0=>?_
 repeat'(first|(refine spl ?_ ?_<;>(intro hb;refine ne ?_))|(refine zl hR ?_;clear hR)|refine s1 ?_|exact True.intro|refine cal (qw n hnk) ?_|refine cal (hc) ?_|refine rdb [] ?_|refine rex [] ?_|(refine s2 ?_;try with_reducible intro R hR)|fail)
 all_goals trace_state
theorem zkT (n:zQ) (nm:ByteArray) (kd sc:Int) (hF:zy n) (l:List Tt) (hc:zu Tryz.prog 174 [j8 n.ch,gI n.id,gS nm,gI kd,gI sc] (zgF (l,0))) (w:Wk) (hm:zA Tryz.prog 175 [.loc 0 0,gS nm] (jg ⟨n.id,n.bt,n.tk,n.want,n.tn,n.seen,n.hv,l⟩) (qI [] []) (.tup []) (jg w.n) (qI w.ps w.es)):zu Tryz.prog 102 [jv n,gS nm,gI kd,gI sc] (rWE (w,0)):=by
 have hnk:=hF.nok
 refine enx [.cell 8 27,.tmp 9,.tmp 10,.tmp 11] Tryz.func102 fun X w0=>?_
 repeat'(first|(refine spl ?_ ?_<;>(intro hb;refine ne ?_))|(refine zl hR ?_;clear hR)|refine s1 ?_|exact True.intro|refine cal (qw n hnk) ?_|refine cal (hc) ?_|(refine zB (zK 18 8 100 30 8 (by rfl) (by rfl) (by rfl)) ?_;refine zB (zK 18 9 101 38 4 (by rfl) (by rfl) (by rfl)) ?_;simp only[List.set_cons_succ,List.set_cons_zero])|refine cM [(0,18)] [(0,100),(1,101)] (hm) ?_|refine rdb [] ?_|refine rex [] ?_|(refine s2 ?_;try with_reducible intro R hR)|fail)
 all_goals trace_state
theorem zlo (n:zQ) (nm:ByteArray) (hF:zy n) (l:List Tt) (e:Int) (hc:zu Tryz.prog 176 [j8 n.ch,gI n.id,gS nm] (zgF (l,e))) (h:(e==0)=false):zu Tryz.prog 103 [jv n,gS nm] (rWE (⟨n,[],[]⟩,e)):=by
 have hnk:=hF.nok
 have hne:(e !=0)=true:=by simp[bne,h]
 refine enx [.cell 4 27,.tmp 5,.tmp 6,.tmp 7] Tryz.func103 fun X w0=>?_
 repeat'(first|(refine spl ?_ ?_<;>(intro hb;refine ne ?_))|(refine zl hR ?_;clear hR)|refine s1 ?_|exact True.intro|refine cal (qw n hnk) ?_|refine cal (hc) ?_|refine rdb [] ?_|refine rex [] ?_|(refine s2 ?_;try with_reducible intro R hR)|fail)
 all_goals trace_state
theorem zlG (n:zQ) (nm:ByteArray) (hF:zy n) (l:List Tt) (hc:zu Tryz.prog 176 [j8 n.ch,gI n.id,gS nm] (zgF (l,0))) (w:Wk) (hm:zA Tryz.prog 175 [.loc 0 0,gS nm] (jg ⟨n.id,n.bt,n.tk,n.want,n.tn,n.seen,n.hv,l⟩) (qI [] []) (.tup []) (jg w.n) (qI w.ps w.es)):zu Tryz.prog 103 [jv n,gS nm] (rWE (w,0)):=by
 have hnk:=hF.nok
 refine enx [.cell 4 27,.tmp 5,.tmp 6,.tmp 7] Tryz.func103 fun X w0=>?_
 repeat'(first|(refine spl ?_ ?_<;>(intro hb;refine ne ?_))|(refine zl hR ?_;clear hR)|refine s1 ?_|exact True.intro|refine cal (qw n hnk) ?_|refine cal (hc) ?_|(refine zB (zK 14 8 100 30 8 (by rfl) (by rfl) (by rfl)) ?_;refine zB (zK 14 9 101 38 4 (by rfl) (by rfl) (by rfl)) ?_;simp only[List.set_cons_succ,List.set_cons_zero])|refine cM [(0,14)] [(0,100),(1,101)] (hm) ?_|refine rdb [] ?_|refine rex [] ?_|(refine s2 ?_;try with_reducible intro R hR)|fail)
 all_goals trace_state
theorem zgY (n:zQ) (nm:ByteArray) (kd sc:Int) (hF:zy n) (hn:nm.size≤1048576):zu Tryz.prog 102 [jv n,gS nm,gI kd,gI sc] (rWE (zi3 n nm kd sc)):=by
 have hcl:n.ch.length≤8:=(zH.1 hF.ch).2.2.1
 have hc:=zgS n.ch n.id nm kd sc (by omega) hn
 have hfc:=jj (kd:=kd) (sc:=sc) (nm:=nm) hF.ch
 unfold zi3
 rcases hC:zdk n.ch n.id nm kd sc with⟨l,e⟩
 rw[hC]at hc hfc
 by_cases he:e=0
 ·subst he
  rw[zpo]
  exact zkT n nm kd sc hF l hc _ (zoz _ nm (hF.chS hfc))
 ·rw[zpS n nm l e (by simpa using he)]
  exact zme n nm kd sc hF l e hc (by simpa using he)
theorem zgU (n:zQ) (nm:ByteArray) (hF:zy n):zu Tryz.prog 103 [jv n,gS nm] (rWE (zkj n nm)):=by
 have hcl:n.ch.length≤8:=(zH.1 hF.ch).2.2.1
 have hc:=zgQ n.ch n.id nm (by omega)
 have hfc:=jl (nm:=nm) hF.ch
 unfold zkj
 rcases hC:zdt n.ch n.id nm with⟨l,e⟩
 rw[hC]at hc hfc
 by_cases he:e=0
 ·subst he
  rw[zpo]
  exact zlG n nm hF l hc _ (zoz _ nm (hF.chS hfc))
 ·rw[zpS n nm l e (by simpa using he)]
  exact zlo n nm hF l e hc (by simpa using he)
end
end Go.Proofs.YtbcbnfiedgnfpaaGreat
