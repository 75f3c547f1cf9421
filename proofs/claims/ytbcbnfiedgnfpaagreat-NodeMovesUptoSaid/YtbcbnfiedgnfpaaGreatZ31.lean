import Derived.Test.YtbcbnfiedgnfpaaGreatZ29
set_option linter.unusedSimpArgs false
set_option linter.unusedVariables false
set_option maxRecDepth 100000
set_option maxHeartbeats 2000000
namespace Go.Proofs.YtbcbnfiedgnfpaaGreat
open Go.Dl
attribute [local irreducible] DW yE zY zA zu zky
attribute [local push_cast] zZ qF qC zN zM zD zE qH qE qz Go.Dl.qY yT qy List.mem_cons List.not_mem_nil or_false forall_eq false_implies implies_true
section
attribute [local simp] cv jS
theorem zqS (n:zQ) (ps:List qO) (es:List ZF) (p:qO) (b1 b2 b3:Bool) (hF:zy n) (hh:hasP p.fr n.hv=true) (hl:ps.length≤100000000000):zA Tryz.prog 204 [.loc 0 0,ZJ p] (yA n b1 b2 b3) (qI ps es) (.tup []) (yA n b1 b2 b3) (qI (ps++[jS n 4 p.fr p.bt p.lf (qa n p.fr false)]) es):=by
 refine emx [] Tryz.func204 fun XX X G w0=>?_
 repeat'(first|(refine spl ?_ ?_<;>(intro hb;refine ne ?_))|(refine zl hR ?_;clear hR)|refine s1 ?_|exact True.intro|refine rdb [] ?_|refine cad (zk6 n p.fr hF hh) ?_|refine lat ?_|refine cM [(0,0)] [(0,0),(1,1)] (zc3 n ps es 4 ⟨p.fr,p.bt,p.lf,[],false,0⟩ b1 b2 b3 hF) ?_|refine cM [(0,0)] [(0,0),(1,1)] (za8 n ps es ⟨4,n.id,p.fr,n.bt,(getS n.seen p.fr).tm,p.bt,p.lf,qa n p.fr false⟩ b1 b2 b3 (by omega)) ?_|(refine s2 ?_;try with_reducible intro R hR)|fail)
 all_goals(first|exact fmx [(0,0),(1,1)]|trace_state)
theorem zxb (w:Wk) (p:qO) (b1 b3:Bool) (hF:zy w.n) (he:w.es.length≤10000000000) (hl:w.ps.length≤10000000000):zA Tryz.prog 205 [.loc 0 0,ZJ p] (yA w.n b1 true b3) (qI w.ps w.es) (.tup []) (yA (yg w (qg w.n.hv)).n b1 true b3) (qI (yg w (qg w.n.hv)).ps (yg w (qg w.n.hv)).es):=by
 refine emx [] Tryz.func205 fun XX X G w0=>?_
 repeat'(first|(refine spl ?_ ?_<;>(intro hb;refine ne ?_))|(refine zl hR ?_;clear hR)|refine s1 ?_|exact True.intro|(with_reducible refine qR rfl ?_)|(with_reducible refine qT ?_)|(dsimp only[YT])|refine cM [(0,0)] [(0,0),(1,1)] (zg6 w b1 true b3 hF he hl) ?_|(refine s2 ?_;try with_reducible intro R hR)|fail)
 all_goals(first|exact fmx [(0,0),(1,1)]|trace_state)
theorem zxK (w:Wk) (p:qO) (b3:Bool) (hF:zy w.n) (hh:hasP p.fr w.n.hv=true) (he:w.es.length≤10000000000) (hl:w.ps.length≤10000000000):zA Tryz.prog 205 [.loc 0 0,ZJ p] (yA w.n true false b3) (qI w.ps w.es) (.tup []) (yA (qP w p.fr).n true false b3) (qI (qP w p.fr).ps (qP w p.fr).es):=by
 refine emx [] Tryz.func205 fun XX X G w0=>?_
 repeat'(first|(refine spl ?_ ?_<;>(intro hb;refine ne ?_))|(refine zl hR ?_;clear hR)|refine s1 ?_|exact True.intro|(with_reducible refine qR rfl ?_)|(with_reducible refine qT ?_)|(dsimp only[YT])|refine cM [(0,0)] [(0,0),(1,1)] (znF w p.fr true false b3 hF hh (by omega) (by omega)) ?_|(refine s2 ?_;try with_reducible intro R hR)|fail)
 all_goals(first|exact fmx [(0,0),(1,1)]|trace_state)
theorem zoN (w:Wk) (p:qO) (b3:Bool):zA Tryz.prog 205 [.loc 0 0,ZJ p] (yA w.n false false b3) (qI w.ps w.es) (.tup []) (yA w.n false false b3) (qI w.ps w.es):=by
 refine emx [] Tryz.func205 fun XX X G w0=>?_
 repeat'(first|(refine spl ?_ ?_<;>(intro hb;refine ne ?_))|(refine zl hR ?_;clear hR)|refine s1 ?_|exact True.intro|(with_reducible refine qR rfl ?_)|(with_reducible refine qT ?_)|(dsimp only[YT])|(refine s2 ?_;try with_reducible intro R hR)|fail)
 all_goals(first|exact fmx [(0,0),(1,1)]|trace_state)
theorem zi4: ∀(a b:List It) (w:Wk) (c:Bool),qU w c (a++b)=qU (qU w c a).1 (qU w c a).2 b
 |[],b,w,c=>rfl
 |x::a,b,w,c=>by
  rw[List.cons_append,qU,qU]
  split
  ·exact zi4 a b _ _
  ·exact zi4 a b _ _
theorem zi8 {w:Wk} {c:Bool} {l:List It} {k:Nat} (h:k<l.length):qU w c (l.take (k+1))=(if(Qw (qU w c (l.take k)).1.n.ch l[k].c).2 then(jA ⟨(qU w c (l.take k)).1.n.chS (Qw (qU w c (l.take k)).1.n.ch l[k].c).1,(qU w c (l.take k)).1.ps,(qU w c (l.take k)).1.es⟩ l[k].c,true)else qU w c (l.take k)):=by
 rw[qJ h,zi4,qU]
 split<;>rfl
attribute [local simp] jA
theorem zuG (w:Wk) (p:qO) (b1 b2 b3:Bool) (hF:zy w.n) (hfc: ∀x∈p.its,jC x.c=true) (hil:p.its.length≤8) (he:w.es.length≤10000000000):zA Tryz.prog 202 [.loc 0 0,ZJ p] (yA w.n b1 b2 b3) (qI w.ps w.es) (.tup []) (yA (qU w b2 p.its).1.n b1 (qU w b2 p.its).2 b3) (qI (qU w b2 p.its).1.ps (qU w b2 p.its).1.es):=by
 obtain⟨pkd,pfr,pto,pbt,plf,pec,pel,its⟩:=p
 simp only at hfc hil ⊢
 refine emx [] Tryz.func202 fun XX X G w0=>?_
 repeat'(first|(refine spl ?_ ?_<;>(intro hb;refine ne ?_))|(refine zl hR ?_;clear hR)|refine s1 ?_|exact True.intro|(((with_reducible refine zW ?_);refine rgx (ι:=Wk×Bool) (its.length) (fun k x=>St.ofA [(0,.loc 0 0),(9,gIs its),(10,gI its.length),(11,gI k)] (yA x.1.n b1 x.2 b3) (aWa x.1.ps x.1.es)) (fun k x=>qU w b2 (its.take k)=x∧zy x.1.n∧x.1.es.length≤10000000000+k) (w,b2) ?_ (fun k x hJ hk=>?_) (fun x hJ=>?_));rotate_left;obtain⟨j1,j2,j3⟩:=hJ;have hfx:=hfc _ (List.getElem_mem hk);have hcs:=zH.1 j2.ch;have hcl:=hcs.2.2.1;have hsr:=hcs.2.2.2.1;have hkx:=j2.hok;replace hcs:=Lib.hid hcs;replace hfx:=Lib.hid hfx)|refine rdb [] ?_|refine cad (zqW x.1.n.ch its[k].c hsr (by omega)) ?_|refine lat ?_|refine cM [(0,0)] [(0,0),(1,1)] (ze5 ⟨x.1.n.id,x.1.n.bt,x.1.n.tk,x.1.n.want,x.1.n.tn,x.1.n.seen,x.1.n.hv,(Qw x.1.n.ch its[k].c).1⟩ x.1.ps x.1.es its[k].c b1 x.2 b3 (by omega) hkx) ?_|refine rnx (x) ?_|refine rnx ((jA ⟨x.1.n.chS (Qw x.1.n.ch its[k].c).1,x.1.ps,x.1.es⟩ its[k].c,true)) ?_|(refine s2 ?_;try with_reducible intro R hR)|fail)
 ·exact⟨by rw[zi8 hk,j1,if_pos hb],j2.lrn1 (w:=x.1) hfx,by simp only[jA,List.length_append,List.length_cons,List.length_nil];omega⟩
 ·exact⟨by rw[zi8 hk,j1,if_neg (by rw[hb];decide)],j2,by omega⟩
 ·have hJ1:=hJ.1
  simp only[List.take_length]at hJ1
  rw[hJ1]
  exact fmx [(0,0),(1,1)]
 ·exact⟨rfl,hF,by omega⟩
end
end Go.Proofs.YtbcbnfiedgnfpaaGreat
