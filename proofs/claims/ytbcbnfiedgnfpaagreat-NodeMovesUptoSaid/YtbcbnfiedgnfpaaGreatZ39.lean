import Derived.Test.YtbcbnfiedgnfpaaGreatZ33
import Derived.Test.YtbcbnfiedgnfpaaGreatZ37
import Derived.Test.YtbcbnfiedgnfpaaGreatZ38
set_option linter.unusedSimpArgs false
set_option linter.unusedVariables false
set_option maxRecDepth 100000
set_option maxHeartbeats 2000000
namespace Go.Proofs.YtbcbnfiedgnfpaaGreat
open Go.Dl
attribute [local irreducible] DW yE zY zA zu zky
attribute [local push_cast] zZ qF qC zN zM zD zE qH qE qz Go.Dl.qY yT qy List.mem_cons List.not_mem_nil or_false forall_eq false_implies implies_true
section
attribute [local simp] cv jS
theorem zjF (w:Wk) (kd fr bt lf:Int):(qf w kd fr bt lf).ps=w.ps∧(qf w kd fr bt lf).es.length≤w.es.length+1:=by
 unfold qf;split<;>simp
theorem ziS: ∀(l:List It) (w:Wk) (b:Bool),(qU w b l).1.es.length≤w.es.length+l.length
 |[],w,b=>by simp[qU]
 | x::l,w,b=>by
  rw[qU]
  split
  ·have:=ziS l (jA ⟨w.n.chS (Qw w.n.ch x.c).1,w.ps,w.es⟩ x.c) true
   simp only[jA,List.length_append,List.length_cons,List.length_nil]at this ⊢
   omega
  ·have:=ziS l w b
   simp only[List.length_cons];omega
theorem zng: ∀(l:List It) (w:Wk) (kd fr:Int),(yo w kd fr l).es.length≤w.es.length+l.length
 |[],w,kd,fr=>by simp[yo]
 |x::l,w,kd,fr=>by
  rw[yo]
  have h1:=zo6 w kd fr x
  have h2:=zng l (yZ w kd fr x) kd fr
  simp only[List.length_cons];omega
theorem zfw {p:qO} (h:jb p=true):p.its.length≤8∧(p.kd=3∨p.kd=4∨p.its=[]):=by
 simp only[jb,Bool.and_eq_true]at h
 have h9:=h.2
 split at h9
 ·rename_i hk
  simp only[Bool.and_eq_true,decide_eq_true_eq]at h9
  exact⟨h9.1,hk.elim .inl fun h=>.inr (.inl h)⟩
 ·have:p.its=[]:=by simpa using h9
  exact⟨by rw[this];simp,.inr (.inr this)⟩
theorem zwk (w:Wk) (p:qO) (b1 b2 b3:Bool) (he:w.es.length≤100000000000) (hF:zy w.n) (hp:nodeB p.fr=true):zA Tryz.prog 201 [.loc 0 0,ZJ p] (yA w.n b1 b2 b3) (qI w.ps w.es) (.tup []) (yA (qf w p.kd p.fr p.bt p.lf).n (Z4 (findH p.fr w.n.hv) p.bt p.lf) b2 b3) (qI (qf w p.kd p.fr p.bt p.lf).ps (qf w p.kd p.fr p.bt p.lf).es):=by
 obtain⟨n,ps,es⟩:=w
 rw[(zjF _ _ _ _ _).1]
 cases hb:Z4 (findH p.fr n.hv) p.bt p.lf
 ·exact zwY n ps es p b1 b2 b3 he hF hp hb
 ·exact zvP n ps es p b1 b2 b3 he hF hp hb
theorem zoS (w:Wk) (p:qO) (b1 b2 b3:Bool) (hF:zy w.n) (hh:hasP p.fr w.n.hv=true) (he:w.es.length≤10000000000) (hl:w.ps.length≤10000000000):zA Tryz.prog 205 [.loc 0 0,ZJ p] (yA w.n b1 b2 b3) (qI w.ps w.es) (.tup []) (yA (YA w b2 b1 p.fr).n b1 b2 b3) (qI (YA w b2 b1 p.fr).ps (YA w b2 b1 p.fr).es):=by
 rw[zxR hF.srt hh]
 cases b2
 ·cases b1
  ·exact zoN w p b3
  ·exact zxK w p b3 hF hh he hl
 ·exact zxb w p b1 b3 hF he hl
theorem zxt (n:zQ) (p:qO) (hF:zy n) (hH:Jg n p) (hB:jb p=true) (hj0:j9 (getS n.seen p.fr) n.bt p.kd p.bt p.lf p.ec p.el=2) (h5: ¬p.kd=5): ∃b1 b2,zA Tryz.prog 60 [.loc 0 0,ZJ p] (yA n false false false) (qI [] []) (.tup []) (yA (ZL ⟨qW n p,[],[]⟩ p).n b1 b2 false) (qI (ZL ⟨qW n p,[],[]⟩ p).ps (ZL ⟨qW n p,[],[]⟩ p).es):=by
 have hS:=hF.see hH
 obtain⟨hl8,hk34⟩:=zfw hB
 obtain⟨k1,k2,k3,k4⟩:=Jk (w:=⟨qW n p,[],[]⟩) (kd:=p.kd) hS hH.fr hH.ne hH.bt hH.lf
 have hps1:=zjF ⟨qW n p,[],[]⟩ p.kd p.fr p.bt p.lf
 have c1:=zwk ⟨qW n p,[],[]⟩ p false false false (by simp) hS hH.fr
 have s1:=Yx (b:=false) k1 fun x hx=>y8 (hH.its x hx)
 have s2:=JQ (kd:=p.kd) s1.k (by rw[s1.has];exact k2) hH.its
 have hes2:=ziS p.its (qf ⟨qW n p,[],[]⟩ p.kd p.fr p.bt p.lf) false
 have hes3:=zng p.its (qU (qf ⟨qW n p,[],[]⟩ p.kd p.fr p.bt p.lf) false p.its).1 p.kd p.fr
 have hps2:=(zc4 (l:=p.its) (w:=qf ⟨qW n p,[],[]⟩ p.kd p.fr p.bt p.lf) (b:=false)).1
 have hps3:=(zfl (l:=p.its) (w:=(qU (qf ⟨qW n p,[],[]⟩ p.kd p.fr p.bt p.lf) false p.its).1) (kd:=p.kd) (fr:=p.fr)).1
 unfold ZL
 simp only
 generalize hbg:Z4 (findH p.fr (qW n p).hv) p.bt p.lf=bg at c1 ⊢
 generalize hw1:qf ⟨qW n p,[],[]⟩ p.kd p.fr p.bt p.lf=w1 at*
 have he1:w1.es.length≤1:=by simpa using hps1.2
 have c2:=zuG w1 p bg false false k1 (fun x hx=>y8 (hH.its x hx)) hl8 (by omega)
 generalize hw2:qU w1 false p.its=r at*
 obtain⟨w2,lr⟩:=r
 simp only at*
 have hh2:hasP p.fr w2.n.hv=true:=by rw[s1.has];exact k2
 have c3:=zu0 w2 p bg lr false s1.k hh2 hH.its hl8 (by omega)
 generalize hw3:yo w2 p.kd p.fr p.its=w3 at*
 have hh3:hasP p.fr w3.n.hv=true:=by rw[s2.has];exact hh2
 have hp0:w3.ps=[]:=by rw[hps3,hps2,hps1.1]
 refine⟨bg,lr,?_⟩
 by_cases h3:p.kd=3
 ·rw[if_pos h3]
  have c4:=zqS w3.n w3.ps w3.es p bg lr false s2.k hh3 (by rw[hp0];simp)
  have c5:=zoS (J1 w3 p.fr p.bt p.lf) p bg lr false s2.k hh3 (by simp only[J1,zpz];omega) (by simp only[J1,zpz,hp0,List.length_append,List.length_cons,List.length_nil];omega)
  obtain⟨kd,fr,to,bt,lf,ec,el,its⟩:=p
  simp only at h3
  subst h3
  exact zeO n _ hF hj0 hH.bt.1 sL3 (fun k=>match k with|0=>(⟨qW n ⟨3,fr,to,bt,lf,ec,el,its⟩,[],[]⟩,false,false)|1=>(w1,bg,false)|2=>(w2,bg,lr)|3=>(w3,bg,lr)|4=>(J1 w3 fr bt lf,bg,lr)| _=>(YA (J1 w3 fr bt lf) lr bg fr,bg,lr)) (fun b=>zsk b _ _ _ _ _ _ _) rfl (fun k hk=>by
   match k,hk with
   |0,_=>exact c1
   |1,_=>exact c2
   |2,_=>exact c3
   |3,_=>exact c4
   |4,_=>exact c5
   |k+5,hk=>simp at hk;omega)
 ·rw[if_neg h3]
  have c5:=zoS w3 p bg lr false s2.k hh3 (by omega) (by rw[hp0];simp)
  by_cases h4:p.kd=4
  ·obtain⟨kd,fr,to,bt,lf,ec,el,its⟩:=p
   simp only at h4
   subst h4
   exact zeO n _ hF hj0 hH.bt.1 sL4 (fun k=>match k with|0=>(⟨qW n ⟨4,fr,to,bt,lf,ec,el,its⟩,[],[]⟩,false,false)|1=>(w1,bg,false)|2=>(w2,bg,lr)|3=>(w3,bg,lr)| _=>(YA w3 lr bg fr,bg,lr)) (fun b=>zt8 b _ _ _ _ _ _ _) rfl (fun k hk=>by
    match k,hk with
    |0,_=>exact c1
    |1,_=>exact c2
    |2,_=>exact c3
    |3,_=>exact c5
    |k+4,hk=>simp at hk;omega)
  ·have hits:p.its=[]:=by rcases hk34 with h|h|h<;>first|exact absurd h h3|exact absurd h h4|exact h
   obtain⟨kd,fr,to,bt,lf,ec,el,its⟩:=p
   simp only at hits h3 h4 h5
   subst hits
   have e2:w1=w2∧lr=false:=by simp only[qU]at hw2;injection hw2 with h1 h2;exact⟨h1,h2.symm⟩
   have e3:w2=w3:=by simp only[yo]at hw3;exact hw3
   obtain⟨e2,e2b⟩:=e2
   subst e2 e2b e3
   exact zeO n _ hF hj0 hH.bt.1 sL1 (fun k=>match k with|0=>(⟨qW n ⟨kd,fr,to,bt,lf,ec,el,[]⟩,[],[]⟩,false,false)|1=>(w1,bg,false)| _=>(YA w1 false bg fr,bg,false)) (fun b=>ztA b _ _ _ _ _ _ _ _ (by simpa using h3) (by simpa using h4) (by simpa using h5)) rfl (fun k hk=>by
    match k,hk with
    |0,_=>exact c1
    |1,_=>exact c5
    |k+2,hk=>simp at hk;omega)
theorem zwT (n:zQ) (p:qO) (hF:zy n) (hH:Jg n p) (hB:jb p=true) (hj0:j9 (getS n.seen p.fr) n.bt p.kd p.bt p.lf p.ec p.el=2): ∃b1 b2 b3,zA Tryz.prog 60 [.loc 0 0,ZJ p] (yA n false false false) (qI [] []) (.tup []) (yA (Q9 n p).n b1 b2 b3) (qI (Q9 n p).ps (Q9 n p).es):=by
 have hS:=hF.see hH
 by_cases h5:p.kd=5
 ·unfold Q9
  rw[if_neg (by simpa using h5)]
  obtain⟨kd,fr,to,bt,lf,ec,el,its⟩:=p
  simp only at h5
  subst h5
  cases hpb:ziy (findH fr n.hv) bt lf
  ·rw[if_neg (by simp)]
   exact⟨false,false,true,zxA n _ hF hj0 hH.bt.1 (fun b=>zlk b _ _ _ _ _ _ _) (zw4 (qW n _) [] [] _ false false false (by simp) hS hH.fr hpb)⟩
  ·rw[if_pos rfl]
   refine⟨false,false,false,?_⟩
   have c1:=zwK (qW n ⟨5,fr,to,bt,lf,ec,el,its⟩) [] [] ⟨5,fr,to,bt,lf,ec,el,its⟩ false false false (by simp) hS hH.fr hpb
   exact zeO n _ hF hj0 hH.bt.1 sL5 (fun k=>match k with|0=>(⟨qW n ⟨5,fr,to,bt,lf,ec,el,its⟩,[],[]⟩,false,false)| _=>(zbh ⟨qW n ⟨5,fr,to,bt,lf,ec,el,its⟩,[],[]⟩ fr 2,false,false)) (fun b=>zlk b _ _ _ _ _ _ _) rfl (fun k hk=>by
    match k,hk with
    |0,_=>exact c1
    |1,_=>exact zoN _ _ _
    |k+2,hk=>simp at hk;omega)
 ·unfold Q9
  rw[if_pos h5]
  obtain⟨b1,b2,h⟩:=zxt n p hF hH hB hj0 h5
  exact⟨b1,b2,false,h⟩
def zp1 (n:zQ) (p:qO):Wk:=
 if j9 (getS n.seen p.fr) n.bt p.kd p.bt p.lf p.ec p.el=3 then⟨n,[⟨2,n.id,p.fr,n.bt,(getS n.seen p.fr).tm,p.bt,p.lf,[]⟩],[]⟩
 else if j9 (getS n.seen p.fr) n.bt p.kd p.bt p.lf p.ec p.el=2 then Q9 n p else zem ⟨n,[],[]⟩ p
theorem znb (n:zQ) (p:qO) (hF:zy n) (hH:Jg n p) (hB:jb p=true): ∃b1 b2 b3,zA Tryz.prog 60 [.loc 0 0,ZJ p] (yA n false false false) (qI [] []) (.tup []) (yA (zp1 n p).n b1 b2 b3) (qI (zp1 n p).ps (zp1 n p).es):=by
 unfold zp1
 by_cases h3:j9 (getS n.seen p.fr) n.bt p.kd p.bt p.lf p.ec p.el=3
 ·rw[if_pos h3];exact⟨_,_,_,zw1 n p hF h3⟩
 ·rw[if_neg h3]
  by_cases h2:j9 (getS n.seen p.fr) n.bt p.kd p.bt p.lf p.ec p.el=2
  ·rw[if_pos h2];exact zwT n p hF hH hB h2
  ·rw[if_neg h2];exact⟨_,_,_,zv4 n p _ hF rfl (by simpa using h2) (by simpa using h3)⟩
theorem zgZ (n:zQ) (p:qO) (hF:zy n) (hpk:PkOk p) (hbad:jb p=false∨(jb p=true∧(p.to !=n.id)=true)∨(jb p=true∧(p.to !=n.id)=false∧decide (p.fr∈n.want)=false)):zu Tryz.prog 15 [jv n,ZJ p] (rW ⟨n,[],[⟨6,p.fr,yI,p.kd⟩]⟩):=by
 rcases hbad with h1|⟨h1,h2⟩|⟨h1,h2,h3⟩
 ·have hnk:=hF.nok
  have hwl:=(zU.1 hF.want).2.1
  have hone:True:=trivial
  refine enx [.cell 4 27,.tmp 5,.tmp 6] Tryz.func15 fun X w0=>?_
  repeat'(first|(refine spl ?_ ?_<;>(intro hb;refine ne ?_))|(refine zl hR ?_;clear hR)|refine s1 ?_|exact True.intro|(have htk:True:=hone;have hq:(!jb p)=_:=hb;clear hone htk hq;fail)|refine cal (yL n hnk) ?_|refine cal (zaQ p hpk) ?_|refine cal (zig n.want p.fr (by omega)) ?_|(refine zB (zK 11 8 100 30 8 (by rfl) (by rfl) (by rfl)) ?_;refine zB (zK 11 9 101 38 4 (by rfl) (by rfl) (by rfl)) ?_;simp only[List.set_cons_succ,List.set_cons_zero])|refine cM [(0,11)] [(0,100),(1,101)] (Yn n [] [] p false false false (by simp)) ?_|refine rdb [] ?_|refine rex [] ?_|(refine s2 ?_;try with_reducible intro R hR)|fail)
  all_goals trace_state
 ·have hnk:=hF.nok
  have hwl:=(zU.1 hF.want).2.1
  have hone:True:=trivial
  refine enx [.cell 4 27,.tmp 5,.tmp 6] Tryz.func15 fun X w0=>?_
  repeat'(first|(refine spl ?_ ?_<;>(intro hb;refine ne ?_))|(refine zl hR ?_;clear hR)|refine s1 ?_|exact True.intro|(have htk:True:=hone;have hq:(!jb p)=_:=hb;clear hone htk hq;fail)|refine cal (yL n hnk) ?_|refine cal (zaQ p hpk) ?_|refine cal (zig n.want p.fr (by omega)) ?_|(refine zB (zK 11 8 100 30 8 (by rfl) (by rfl) (by rfl)) ?_;refine zB (zK 11 9 101 38 4 (by rfl) (by rfl) (by rfl)) ?_;simp only[List.set_cons_succ,List.set_cons_zero])|refine cM [(0,11)] [(0,100),(1,101)] (Yn n [] [] p false false false (by simp)) ?_|refine rdb [] ?_|refine rex [] ?_|(refine s2 ?_;try with_reducible intro R hR)|fail)
  all_goals trace_state
 ·have hnk:=hF.nok
  have hwl:=(zU.1 hF.want).2.1
  have hone:True:=trivial
  refine enx [.cell 4 27,.tmp 5,.tmp 6] Tryz.func15 fun X w0=>?_
  repeat'(first|(refine spl ?_ ?_<;>(intro hb;refine ne ?_))|(refine zl hR ?_;clear hR)|refine s1 ?_|exact True.intro|(have htk:True:=hone;have hq:(!jb p)=_:=hb;clear hone htk hq;fail)|refine cal (yL n hnk) ?_|refine cal (zaQ p hpk) ?_|refine cal (zig n.want p.fr (by omega)) ?_|(refine zB (zK 11 8 100 30 8 (by rfl) (by rfl) (by rfl)) ?_;refine zB (zK 11 9 101 38 4 (by rfl) (by rfl) (by rfl)) ?_;simp only[List.set_cons_succ,List.set_cons_zero])|refine cM [(0,11)] [(0,100),(1,101)] (Yn n [] [] p false false false (by simp)) ?_|refine rdb [] ?_|refine rex [] ?_|(refine s2 ?_;try with_reducible intro R hR)|fail)
  all_goals trace_state
theorem zg1 (n:zQ) (p:qO) (hF:zy n) (hpk:PkOk p) (h1:jb p=true) (h2:(p.to !=n.id)=false) (h3:decide (p.fr∈n.want)=true) (w:Wk) (b1 b2 b3:Bool) (hr:zA Tryz.prog 60 [.loc 0 0,ZJ p] (yA n false false false) (qI [] []) (.tup []) (yA w.n b1 b2 b3) (qI w.ps w.es)):zu Tryz.prog 15 [jv n,ZJ p] (rW w):=by
 have hnk:=hF.nok
 have hwl:=(zU.1 hF.want).2.1
 have hone:True:=trivial
 refine enx [.cell 4 27,.tmp 5,.tmp 6] Tryz.func15 fun X w0=>?_
 repeat'(first|(refine spl ?_ ?_<;>(intro hb;refine ne ?_))|(refine zl hR ?_;clear hR)|refine s1 ?_|exact True.intro|(have htk:True:=hone;have hq:(!jb p)=_:=hb;clear hone htk hq;fail)|refine cal (yL n hnk) ?_|refine cal (zaQ p hpk) ?_|refine cal (zig n.want p.fr (by omega)) ?_|(refine zB (zK 11 8 100 30 8 (by rfl) (by rfl) (by rfl)) ?_;refine zB (zK 11 9 101 38 4 (by rfl) (by rfl) (by rfl)) ?_;simp only[List.set_cons_succ,List.set_cons_zero])|refine cM [(0,11)] [(0,100),(1,101)] (hr) ?_|refine rdb [] ?_|refine rex [] ?_|(refine s2 ?_;try with_reducible intro R hR)|fail)
 all_goals trace_state
theorem zbm (n:zQ) (p:qO) (hF:zy n) (hpk:PkOk p):zu Tryz.prog 15 [jv n,ZJ p] (rW (jp n p)):=by
 by_cases hbad:jb p=false∨(jb p=true∧(p.to !=n.id)=true)∨(jb p=true∧(p.to !=n.id)=false∧decide (p.fr∈n.want)=false)
 ·have e:jp n p=zem ⟨n,[],[]⟩ p:=by
   unfold jp
   rw[if_pos (by rcases hbad with h1|⟨h1,h2⟩|⟨h1,h2,h3⟩<;>simp_all)]
  rw[e];exact zgZ n p hF hpk hbad
 ·have h1:jb p=true:=by cases h:jb p<;>simp_all
  have h2:(p.to !=n.id)=false:=by cases h:(p.to !=n.id)<;>simp_all
  have h3:decide (p.fr∈n.want)=true:=by cases h:decide (p.fr∈n.want)<;>simp_all
  have e:jp n p=zp1 n p:=by
   unfold jp zp1
   rw[if_neg (by simp_all)]
  rw[e]
  obtain⟨b1,b2,b3,hr⟩:=znb n p hF (Qc h1 (by simpa using h2)) h1
  exact zg1 n p hF hpk h1 h2 h3 _ _ _ _ hr
end
end Go.Proofs.YtbcbnfiedgnfpaaGreat
