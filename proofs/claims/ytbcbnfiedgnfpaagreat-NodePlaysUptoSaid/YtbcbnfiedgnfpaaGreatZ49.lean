import Derived.Test.YtbcbnfiedgnfpaaGreatZ39
import Derived.Test.YtbcbnfiedgnfpaaGreatZ48
set_option linter.unusedSimpArgs false
set_option linter.unusedVariables false
set_option maxRecDepth 100000
set_option maxHeartbeats 2000000
namespace Go.Proofs.YtbcbnfiedgnfpaaGreat
open Go.Dl
attribute [local irreducible] DW yE zY zA zu zky
attribute [local push_cast] zZ qF qC zN zM zD zE qH qE qz Go.Dl.qY yT qy List.mem_cons List.not_mem_nil or_false forall_eq false_implies implies_true
def Few (w:Wk):Prop:=w.ps.length≤100∧w.es.length≤1000
theorem zfK: ∀ {l:List Int} {w:Wk},zy w.n→(∀p∈l,hasP p w.n.hv=true)→(yg w l).ps.length≤w.ps.length+l.length∧(yg w l).es.length≤w.es.length+8*l.length
 |[],w,_,_=>⟨by simp[yg],by simp[yg]⟩
 |p::l,w,hF,h=>by
  have hp:=h p (List.mem_cons_self ..)
  have h1:=Zd hF hp
  have st:=jY hF hp
  have h2:=zfK (l:=l) (w:=qP w p) st.k (fun q hq=>by rw[st.has];exact h q (List.mem_cons_of_mem _ hq))
  simp only[yg,List.length_cons];omega
theorem zti {w:Wk} {p:qO} (h:zy w.n) (hp:Jg w.n p) (hl:p.its.length≤8) (hw:w.ps=[]∧w.es=[]):Few (ZL w p):=by
 obtain⟨k1,k2,k3,k4⟩:=Jk (kd:=p.kd) h hp.fr hp.ne hp.bt hp.lf
 have e0:=zjF w p.kd p.fr p.bt p.lf
 have s1:=Yx (b:=false) k1 fun x hx=>y8 (hp.its x hx)
 have hh:hasP p.fr (qU (qf w p.kd p.fr p.bt p.lf) false p.its).1.n.hv=true:=by rw[s1.has];exact k2
 have s2:=JQ (kd:=p.kd) s1.k hh hp.its
 have e1:=zc4 (l:=p.its) (w:=qf w p.kd p.fr p.bt p.lf) (b:=false)
 have e2:=zfl (l:=p.its) (w:=(qU (qf w p.kd p.fr p.bt p.lf) false p.its).1) (kd:=p.kd) (fr:=p.fr)
 have f1:=ziS p.its (qf w p.kd p.fr p.bt p.lf) false
 have f2:=zng p.its (qU (qf w p.kd p.fr p.bt p.lf) false p.its).1 p.kd p.fr
 unfold ZL YA
 simp only
 generalize hw3:yo (qU (qf w p.kd p.fr p.bt p.lf) false p.its).1 p.kd p.fr p.its=w3 at*
 have g1:w3.ps=[]:=by rw[e2.1,e1.1,e0.1,hw.1]
 have g2:w3.es.length≤17:=by have:=e0.2;rw[hw.2]at this;simp only[List.length_nil]at this;omega
 have e: ∀w3:Wk,(if p.kd=3 then J1 w3 p.fr p.bt p.lf else w3).n=w3.n:=fun w3=>by split<;>rfl
 have g3:(if p.kd=3 then J1 w3 p.fr p.bt p.lf else w3).ps.length≤1∧(if p.kd=3 then J1 w3 p.fr p.bt p.lf else w3).es.length≤17:=by
  split
  ·simp[J1,g1,g2]
  ·simp[g1,g2]
 have hhl:=jW s2.k.hv
 have a:=zfK (w:=(if p.kd=3 then J1 w3 p.fr p.bt p.lf else w3)) (l:=(qg (if p.kd=3 then J1 w3 p.fr p.bt p.lf else w3).n.hv).filter fun q=>(qU (qf w p.kd p.fr p.bt p.lf) false p.its).2||(Z4 (findH p.fr w.n.hv) p.bt p.lf&&decide (q=p.fr))) (by rw[e];exact s2.k) (fun q hq=>yP.2 (List.mem_filter.1 hq).1)
 have b:=List.length_filter_le (fun q=>(qU (qf w p.kd p.fr p.bt p.lf) false p.its).2||(Z4 (findH p.fr w.n.hv) p.bt p.lf&&decide (q=p.fr))) (qg (if p.kd=3 then J1 w3 p.fr p.bt p.lf else w3).n.hv)
 have c:(qg (if p.kd=3 then J1 w3 p.fr p.bt p.lf else w3).n.hv).length≤16:=by rw[e];unfold qg;rw[List.length_map];exact hhl
 constructor<;>omega
theorem JD (n:zQ):Few ⟨n,[],[]⟩:=⟨by simp,by simp⟩
theorem zuV {n:zQ} (p:qO) (h:zy n):Few (jp n p):=by
 unfold jp
 simp only
 split
 ·exact⟨by simp[zem],by simp[zem]⟩
 ·rename_i hc
  simp only[Bool.or_eq_true,Bool.not_eq_true',decide_eq_true_eq,decide_eq_false_iff_not,not_or,Bool.not_eq_false,ne_eq,Decidable.not_not]at hc
  have hp:=Qc hc.1.1 hc.1.2
  repeat' split
  ·exact⟨by simp,by simp⟩
  ·unfold Q9
   repeat' split
   ·exact zti (w:=⟨qW n p,[],[]⟩) (h.see hp) ⟨hp.fr,hp.ne,hp.bt,hp.lf,hp.its⟩ (zfw hc.1.1).1 ⟨rfl,rfl⟩
   ·exact⟨by simp,by simp⟩
   ·exact⟨by simp[zem],by simp[zem]⟩
  ·exact⟨by simp[zem],by simp[zem]⟩
theorem ztQ {n:zQ} (h:zy n):Few (tickW n):=by
 have hw:=Qa h.want
 have hm:zy ((tickN n).tnS (yR n.want n.tn).2.1):=h.tickN.tnS hw.1
 unfold tickW
 simp only
 split
 ·exact JD _
 ·rename_i hv
  split
  ·exact⟨by simp,by simp⟩
  ·rename_i hf
   have hp:hasP (yR n.want n.tn).1 n.hv=true:=by simpa[hasP]using hf
   obtain⟨h1,h2,h3⟩:=h.find hp
   split
   ·rename_i ht
    rcases Zx h1 with⟨_,g1,g2,_⟩|g
    ·have hk:zy (((tickN n).tnS (yR n.want n.tn).2.1).hvS (qu n.hv (yO (findH (yR n.want n.tn).1 n.hv).1).1)):=hm.keep g1
     have:=Zd (w:=⟨_,[],[]⟩) hk (Zh.2 (.inl (by rw[g2,h2])))
     simp only[List.length_nil]at this
     exact⟨Nat.le_trans (Nat.le_of_eq this.1) (by omega),Nat.le_trans this.2 (by omega)⟩
    ·rw[g]at ht;cases ht
   ·exact⟨by simp,by simp⟩
theorem zmb {n:zQ} {nm:ByteArray} {r:List Tt×Int} (h:zy n) (hr:fitsT n.id r.1=true):Few (ZG n nm r).1:=by
 unfold ZG
 split
 ·exact JD _
 ·have h1:zy (n.chS r.1):=h.chS hr
  have hcl:r.1.length≤8:=(zH.1 h1.ch).2.2.1
  obtain⟨hv2,es2,f1,f2,f3⟩:=JB nm r.1 (n.chS r.1) n.hv [] h1
  have f1':madeL ⟨n.chS r.1,[],[]⟩ nm r.1=⟨⟨n.id,n.bt,n.tk,n.want,n.tn,n.seen,hv2,r.1⟩,[],es2⟩:=f1
  simp only[f1']
  have hhl:=jW f2.hv
  have c:(qg hv2).length≤16:=by unfold qg;rw[List.length_map];exact hhl
  have a:=zfK (w:=⟨⟨n.id,n.bt,n.tk,n.want,n.tn,n.seen,hv2,r.1⟩,[],es2⟩) (l:=qg hv2) f2 (fun q hq=>yP.2 hq)
  simp only[List.length_nil]at a f3
  exact⟨by omega,by omega⟩
theorem zuy {n:zQ} (c:Cal) (h:zy n):Few (Ye n c).1:=by
 unfold Ye
 split
 ·exact JD _
 split
 ·unfold jz;simp only
  split
  ·exact JD _
  ·split
   ·exact⟨by simp,by simp⟩
   ·exact JD _
 split
 ·exact zmb h (jj h.ch)
 split
 ·exact zmb h (jl h.ch)
 split
 ·exact JD _
 split
 ·exact ztQ h
 split
 ·exact zuV c.p h
 ·exact JD _
theorem zAg:zep Tryz.prog 38 [some (.int .i64),some (.int .i64),some .str,some (.int .i64)]:=Jn (ks:=[.int .i64,.int .i64,.str,.int .i64]) 3 (by decide) (by kernel_rfl) (by kernel_rfl) (by kernel_rfl)
attribute [push_cast] zAg
theorem ztN (l m:List ZF) (hl:l.length≤1000):zu Tryz.prog 97 [zxT l,zxT m] (gB (zgP l m)):=by
 refine enx [.tmp 4] Tryz.func97 fun X w0=>?_
 repeat'(first|(refine spl ?_ ?_<;>(intro hb;refine ne ?_))|(refine zl hR ?_;clear hR)|refine s1 ?_|exact True.intro|(have hlm:=zat hb;((with_reducible refine zO ?_);refine frx (ι:=Unit) (l.length) (fun k _=>St.ofA [(0,zxT l),(1,zxT m),(5,gI k)] [] []) (fun k _=>zgP l m=zgP (l.drop k) (m.drop k)) () ?_ (fun k x hJ hk R hR=>?_)))|(have hkm:k<m.length:=(by omega);refine rdb [] ?_)|refine rdb [] ?_|refine fnx (()) ?_ ?_|(refine s2 ?_;try with_reducible intro R hR)|fail)
 all_goals(refine gz ?_;grind[eqE,zsA,zcX,zmt,zP])
theorem zq1 (l m:List qO) (hl:l.length≤1000) (hp: ∀p∈l,p.its.length≤1048576):zu Tryz.prog 96 [gPs l,gPs m] (gB (zgE l m)):=by
 replace hp:=Lib.hid hp
 refine enx [.tmp 4] Tryz.func96 fun X w0=>?_
 repeat'(first|(refine spl ?_ ?_<;>(intro hb;refine ne ?_))|(refine zl hR ?_;clear hR)|refine s1 ?_|exact True.intro|(have hlm:=zat hb;((with_reducible refine zO ?_);refine frx (ι:=Unit) (l.length) (fun k _=>St.ofA [(0,gPs l),(1,gPs m),(5,gI k)] [] []) (fun k _=>zgE l m=zgE (l.drop k) (m.drop k)) () ?_ (fun k x hJ hk R hR=>?_)))|(have hkm:k<m.length:=(by omega);refine rdb [] ?_)|refine rdb [] ?_|(have hpl:=(show∀p∈l,p.its.length≤1048576 from hp) l[k] (List.getElem_mem _);refine cad (zmG l[k] m[k] hpl) ?_)|refine lat ?_|refine fnx (()) ?_ ?_|(refine s2 ?_;try with_reducible intro R hR)|fail)
 all_goals(refine gz ?_;grind[zty,zdP,zkO,zP])
abbrev cCm (x:Wk×Int):List C:=[.f (eI x.1.n.id),.f (eI x.1.n.bt),.f (eI x.1.n.tk),.f (.l 1 (x.1.n.want.map Z3)),.f (eI x.1.n.tn),.f (.l 4 (x.1.n.seen.map QD)),.f (.l 6 (x.1.n.hv.map jI)),.f (.l 16 (x.1.n.ch.map QO)),.f (.l 8 (x.1.ps.map yG)),.f (.l 4 (x.1.es.map zeq)),.f (eI x.2)]
abbrev gCm (x:Wk×Int):V:=.agg (cCm x)
def eqC (x y:Wk×Int):Bool:=eqN x.1.n y.1.n&&(zgE x.1.ps y.1.ps&&(zgP x.1.es y.1.es&&x.2==y.2))
theorem ztR (x y:Wk×Int) (hn:NOk x.1.n) (hf:Few x.1) (hp: ∀p∈x.1.ps,p.its.length≤1048576):zu Tryz.prog 40 [gCm x,gCm y] (gB (eqC x y)):=by
 obtain⟨⟨xn,xp,xe⟩,xr⟩:=x
 obtain⟨⟨yn,yp,ye⟩,yr⟩:=y
 obtain⟨h1,h2⟩:=hf
 simp only at hn hp h1 h2
 refine enx [.tmp 4] Tryz.func40 fun X w0=>?_
 repeat'(first|(refine spl ?_ ?_<;>(intro hb;refine ne ?_))|(refine zl hR ?_;clear hR)|refine s1 ?_|exact True.intro|refine cal (zd2 xn yn hn) ?_|refine cal (zq1 xp yp (by omega) hp) ?_|refine cal (ztN xe ye h2) ?_|(refine s2 ?_;try with_reducible intro R hR)|fail)
 all_goals(refine gz ?_;grind[eqC])
end Go.Proofs.YtbcbnfiedgnfpaaGreat
