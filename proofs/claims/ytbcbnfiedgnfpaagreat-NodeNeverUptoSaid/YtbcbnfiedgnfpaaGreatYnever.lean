/- For every input that a machine can hold (the '..UptoSaid' form: all that the arguments reach weighs at most 1048576) the Go function eddylaw20.NodeNever of the given program returns true, never panics, and changes nothing that was there before. No further condition. -/
import Derived.Test.YtbcbnfiedgnfpaaGreatZ39
import Derived.Test.YtbcbnfiedgnfpaaGreatZ50
import Derived.Test.YtbcbnfiedgnfpaaGreatZ25
import Derived.Test.YtbcbnfiedgnfpaaGreatZ26
set_option linter.unusedSimpArgs false
set_option linter.unusedVariables false
set_option maxRecDepth 100000
set_option maxHeartbeats 2000000
namespace Go.Proofs.YtbcbnfiedgnfpaaGreat
open Go.Dl
attribute [local irreducible] DW yE zY zA zu zky
attribute [local push_cast] zZ qF qC zN zM zD zE qH qE qz Go.Dl.qY yT qy List.mem_cons List.not_mem_nil or_false forall_eq false_implies implies_true
def Few (w:Wk):Prop:=w.ps.length≤100∧w.es.length≤1000
theorem zfK: ∀ {l:List Int} {w:Wk},zy w.n→(∀p∈l,hasP p w.n.hv=true)→(yg w l).ps.length≤w.ps.length+l.length∧(yg w l).es.length≤w.es.length+8*l.length
 |[],w,_,_=>⟨by simp[yg],by simp[yg]⟩
 |p::l,w,hF,h=>by
  have hp:=h p (List.mem_cons_self ..)
  have h1:=Zd hF hp
  have st:=jY hF hp
  have h2:=zfK (l:=l) (w:=qP w p) st.k (fun q hq=>by rw[st.has];exact h q (List.mem_cons_of_mem _ hq))
  simp only[yg,List.length_cons];omega
theorem zti {w:Wk} {p:qO} (h:zy w.n) (hp:Jg w.n p) (hl:p.its.length≤8) (hw:w.ps=[]∧w.es=[]):Few (ZL w p):=by
 obtain⟨k1,k2,k3,k4⟩:=Jk (kd:=p.kd) h hp.fr hp.ne hp.bt hp.lf
 have e0:=zjF w p.kd p.fr p.bt p.lf
 have s1:=Yx (b:=false) k1 fun x hx=>y8 (hp.its x hx)
 have hh:hasP p.fr (qU (qf w p.kd p.fr p.bt p.lf) false p.its).1.n.hv=true:=by rw[s1.has];exact k2
 have s2:=JQ (kd:=p.kd) s1.k hh hp.its
 have e1:=zc4 (l:=p.its) (w:=qf w p.kd p.fr p.bt p.lf) (b:=false)
 have e2:=zfl (l:=p.its) (w:=(qU (qf w p.kd p.fr p.bt p.lf) false p.its).1) (kd:=p.kd) (fr:=p.fr)
 have f1:=ziS p.its (qf w p.kd p.fr p.bt p.lf) false
 have f2:=zng p.its (qU (qf w p.kd p.fr p.bt p.lf) false p.its).1 p.kd p.fr
 unfold ZL YA
 simp only
 generalize hw3:yo (qU (qf w p.kd p.fr p.bt p.lf) false p.its).1 p.kd p.fr p.its=w3 at*
 have g1:w3.ps=[]:=by rw[e2.1,e1.1,e0.1,hw.1]
 have g2:w3.es.length≤17:=by have:=e0.2;rw[hw.2]at this;simp only[List.length_nil]at this;omega
 have e: ∀w3:Wk,(if p.kd=3 then J1 w3 p.fr p.bt p.lf else w3).n=w3.n:=fun w3=>by split<;>rfl
 have g3:(if p.kd=3 then J1 w3 p.fr p.bt p.lf else w3).ps.length≤1∧(if p.kd=3 then J1 w3 p.fr p.bt p.lf else w3).es.length≤17:=by
  split
  ·simp[J1,g1,g2]
  ·simp[g1,g2]
 have hhl:=jW s2.k.hv
 have a:=zfK (w:=(if p.kd=3 then J1 w3 p.fr p.bt p.lf else w3)) (l:=(qg (if p.kd=3 then J1 w3 p.fr p.bt p.lf else w3).n.hv).filter fun q=>(qU (qf w p.kd p.fr p.bt p.lf) false p.its).2||(Z4 (findH p.fr w.n.hv) p.bt p.lf&&decide (q=p.fr))) (by rw[e];exact s2.k) (fun q hq=>yP.2 (List.mem_filter.1 hq).1)
 have b:=List.length_filter_le (fun q=>(qU (qf w p.kd p.fr p.bt p.lf) false p.its).2||(Z4 (findH p.fr w.n.hv) p.bt p.lf&&decide (q=p.fr))) (qg (if p.kd=3 then J1 w3 p.fr p.bt p.lf else w3).n.hv)
 have c:(qg (if p.kd=3 then J1 w3 p.fr p.bt p.lf else w3).n.hv).length≤16:=by rw[e];unfold qg;rw[List.length_map];exact hhl
 constructor<;>omega
theorem JD (n:zQ):Few ⟨n,[],[]⟩:=⟨by simp,by simp⟩
theorem zuV {n:zQ} (p:qO) (h:zy n):Few (jp n p):=by
 unfold jp
 simp only
 split
 ·exact⟨by simp[zem],by simp[zem]⟩
 ·rename_i hc
  simp only[Bool.or_eq_true,Bool.not_eq_true',decide_eq_true_eq,decide_eq_false_iff_not,not_or,Bool.not_eq_false,ne_eq,Decidable.not_not]at hc
  have hp:=Qc hc.1.1 hc.1.2
  repeat' split
  ·exact⟨by simp,by simp⟩
  ·unfold Q9
   repeat' split
   ·exact zti (w:=⟨qW n p,[],[]⟩) (h.see hp) ⟨hp.fr,hp.ne,hp.bt,hp.lf,hp.its⟩ (zfw hc.1.1).1 ⟨rfl,rfl⟩
   ·exact⟨by simp,by simp⟩
   ·exact⟨by simp[zem],by simp[zem]⟩
  ·exact⟨by simp[zem],by simp[zem]⟩
theorem ztQ {n:zQ} (h:zy n):Few (tickW n):=by
 have hw:=Qa h.want
 have hm:zy ((tickN n).tnS (yR n.want n.tn).2.1):=h.tickN.tnS hw.1
 unfold tickW
 simp only
 split
 ·exact JD _
 ·rename_i hv
  split
  ·exact⟨by simp,by simp⟩
  ·rename_i hf
   have hp:hasP (yR n.want n.tn).1 n.hv=true:=by simpa[hasP]using hf
   obtain⟨h1,h2,h3⟩:=h.find hp
   split
   ·rename_i ht
    rcases Zx h1 with⟨_,g1,g2,_⟩|g
    ·have hk:zy (((tickN n).tnS (yR n.want n.tn).2.1).hvS (qu n.hv (yO (findH (yR n.want n.tn).1 n.hv).1).1)):=hm.keep g1
     have:=Zd (w:=⟨_,[],[]⟩) hk (Zh.2 (.inl (by rw[g2,h2])))
     simp only[List.length_nil]at this
     exact⟨Nat.le_trans (Nat.le_of_eq this.1) (by omega),Nat.le_trans this.2 (by omega)⟩
    ·rw[g]at ht;cases ht
   ·exact⟨by simp,by simp⟩
theorem JB (nm:ByteArray): ∀(l:List Tt) (n:zQ) (hv:List Hf) (es:List ZF),zy ⟨n.id,n.bt,n.tk,n.want,n.tn,n.seen,hv,n.ch⟩→∃hv2 es2,madeL ⟨⟨n.id,n.bt,n.tk,n.want,n.tn,n.seen,hv,n.ch⟩,[],es⟩ nm l=⟨⟨n.id,n.bt,n.tk,n.want,n.tn,n.seen,hv2,n.ch⟩,[],es2⟩∧zy ⟨n.id,n.bt,n.tk,n.want,n.tn,n.seen,hv2,n.ch⟩∧es2.length≤es.length+l.length
 |[],n,hv,es,hF=>⟨hv,es,rfl,hF,by simp⟩
 | x::l,n,hv,es,hF=>by
  rw[madeL]
  split
  ·obtain⟨hv2,es2,h1,h2,h3⟩:=JB nm l n (Qy hv x.c.nm) (es++[⟨5,0,x.c.nm,x.c.ep⟩]) hF.frsh
   exact⟨hv2,es2,h1,h2,by simp only[List.length_append,List.length_cons,List.length_nil]at h3 ⊢;omega⟩
  ·obtain⟨hv2,es2,h1,h2,h3⟩:=JB nm l n hv es hF
   exact⟨hv2,es2,h1,h2,by simp only[List.length_cons];omega⟩
theorem zmb {n:zQ} {nm:ByteArray} {r:List Tt×Int} (h:zy n) (hr:fitsT n.id r.1=true):Few (ZG n nm r).1:=by
 unfold ZG
 split
 ·exact JD _
 ·have h1:zy (n.chS r.1):=h.chS hr
  have hcl:r.1.length≤8:=(zH.1 h1.ch).2.2.1
  obtain⟨hv2,es2,f1,f2,f3⟩:=JB nm r.1 (n.chS r.1) n.hv [] h1
  have f1':madeL ⟨n.chS r.1,[],[]⟩ nm r.1=⟨⟨n.id,n.bt,n.tk,n.want,n.tn,n.seen,hv2,r.1⟩,[],es2⟩:=f1
  simp only[f1']
  have hhl:=jW f2.hv
  have c:(qg hv2).length≤16:=by unfold qg;rw[List.length_map];exact hhl
  have a:=zfK (w:=⟨⟨n.id,n.bt,n.tk,n.want,n.tn,n.seen,hv2,r.1⟩,[],es2⟩) (l:=qg hv2) f2 (fun q hq=>yP.2 hq)
  simp only[List.length_nil]at a f3
  exact⟨by omega,by omega⟩
theorem zuy {n:zQ} (c:Cal) (h:zy n):Few (Ye n c).1:=by
 unfold Ye
 split
 ·exact JD _
 split
 ·unfold jz;simp only
  split
  ·exact JD _
  ·split
   ·exact⟨by simp,by simp⟩
   ·exact JD _
 split
 ·exact zmb h (jj h.ch)
 split
 ·exact zmb h (jl h.ch)
 split
 ·exact JD _
 split
 ·exact ztQ h
 split
 ·exact zuV c.p h
 ·exact JD _
theorem zAg:zep Tryz.prog 38 [some (.int .i64),some (.int .i64),some .str,some (.int .i64)]:=Jn (ks:=[.int .i64,.int .i64,.str,.int .i64]) 3 (by decide) (by kernel_rfl) (by kernel_rfl) (by kernel_rfl)
attribute [push_cast] zAg
abbrev cCm (x:Wk×Int):List C:=[.f (eI x.1.n.id),.f (eI x.1.n.bt),.f (eI x.1.n.tk),.f (.l 1 (x.1.n.want.map Z3)),.f (eI x.1.n.tn),.f (.l 4 (x.1.n.seen.map QD)),.f (.l 6 (x.1.n.hv.map jI)),.f (.l 16 (x.1.n.ch.map QO)),.f (.l 8 (x.1.ps.map yG)),.f (.l 4 (x.1.es.map zeq)),.f (eI x.2)]
abbrev gCm (x:Wk×Int):V:=.agg (cCm x)
theorem zzI:zu Tryz.prog 22 [gI 2,gI 7] (jv (⟨2,7,0,[],0,[],[],[]⟩:zQ)):=zq8 2 7
theorem zbf {n:zQ} (h:zaj n=true):zy n:=(jV.1 h).1
theorem zwQ:zu Tryz.prog 23 [jv (⟨2,7,0,[],0,[],[],[]⟩:zQ),gI 5] (rWE (⟨(⟨2,7,0,[5],0,[],[],[]⟩:zQ),[],[]⟩,0)):=by
 have h:=zfa (⟨2,7,0,[],0,[],[],[]⟩:zQ) 5 (zbf (by kernel_rfl))
 rwa[show zd0 (⟨2,7,0,[],0,[],[],[]⟩:zQ) 5=(⟨(⟨2,7,0,[5],0,[],[],[]⟩:zQ),[],[]⟩,0)by kernel_rfl]at h
theorem zvI:zu Tryz.prog 55 [jv (⟨2,7,0,[5],0,[],[],[]⟩:zQ)] (rW ⟨(⟨2,7,1,[5],0,[],[],[]⟩:zQ),[⟨1,2,5,7,0,0,0,[]⟩],[]⟩):=by
 have h:=zfz (⟨2,7,0,[5],0,[],[],[]⟩:zQ) (zbf (by kernel_rfl))
 rwa[show tickW (⟨2,7,0,[5],0,[],[],[]⟩:zQ)=⟨(⟨2,7,1,[5],0,[],[],[]⟩:zQ),[⟨1,2,5,7,0,0,0,[]⟩],[]⟩by kernel_rfl]at h
theorem zv6:zu Tryz.prog 15 [jv (⟨2,7,1,[5],0,[],[],[]⟩:zQ),ZJ (⟨2,5,2,3,0,7,0,[]⟩:qO)] (rW ⟨(⟨2,7,1,[5],0,[⟨5,3,0,0⟩],[⟨5,3,0,[],true,0⟩],[]⟩:zQ),[⟨3,2,5,7,0,3,0,[]⟩],[⟨1,5,yI,3⟩]⟩):=by
 have h:=zbm (⟨2,7,1,[5],0,[],[],[]⟩:zQ) (⟨2,5,2,3,0,7,0,[]⟩:qO) (zbf (by kernel_rfl)) ⟨by simp,by simp⟩
 rwa[show jp (⟨2,7,1,[5],0,[],[],[]⟩:zQ) (⟨2,5,2,3,0,7,0,[]⟩:qO)=⟨(⟨2,7,1,[5],0,[⟨5,3,0,0⟩],[⟨5,3,0,[],true,0⟩],[]⟩:zQ),[⟨3,2,5,7,0,3,0,[]⟩],[⟨1,5,yI,3⟩]⟩by kernel_rfl]at h
theorem zzp:zu Tryz.prog 24 [jv (⟨2,7,1,[5],0,[⟨5,3,0,0⟩],[⟨5,3,0,[],true,0⟩],[]⟩:zQ),gS (⟨#[109]⟩:ByteArray),gI 1,gI 1] (rWE (⟨(⟨2,7,1,[5],0,[⟨5,3,0,0⟩],[⟨5,3,0,[],true,0⟩],[⟨(⟨(⟨#[109]⟩:ByteArray),1,2,true,1,1⟩:Ch),false,0,noEx,noEx⟩]⟩:zQ),[⟨3,2,5,7,0,3,0,[⟨(⟨(⟨#[109]⟩:ByteArray),1,2,true,1,1⟩:Ch),0,0,0,true,0,noEx,noEx⟩]⟩],[⟨5,0,(⟨#[109]⟩:ByteArray),1⟩]⟩,0)):=by
 have h:=zbW (⟨2,7,1,[5],0,[⟨5,3,0,0⟩],[⟨5,3,0,[],true,0⟩],[]⟩:zQ) (⟨#[109]⟩:ByteArray) 1 1 (zbf (by kernel_rfl))
 rwa[show zi3 (⟨2,7,1,[5],0,[⟨5,3,0,0⟩],[⟨5,3,0,[],true,0⟩],[]⟩:zQ) (⟨#[109]⟩:ByteArray) 1 1=(⟨(⟨2,7,1,[5],0,[⟨5,3,0,0⟩],[⟨5,3,0,[],true,0⟩],[⟨(⟨(⟨#[109]⟩:ByteArray),1,2,true,1,1⟩:Ch),false,0,noEx,noEx⟩]⟩:zQ),[⟨3,2,5,7,0,3,0,[⟨(⟨(⟨#[109]⟩:ByteArray),1,2,true,1,1⟩:Ch),0,0,0,true,0,noEx,noEx⟩]⟩],[⟨5,0,(⟨#[109]⟩:ByteArray),1⟩]⟩,0)by kernel_rfl]at h
theorem zyK:zu Tryz.prog 26 [jv (⟨2,7,1,[5],0,[⟨5,3,0,0⟩],[⟨5,3,0,[],true,0⟩],[⟨(⟨(⟨#[109]⟩:ByteArray),1,2,true,1,1⟩:Ch),false,0,noEx,noEx⟩]⟩:zQ),gS (⟨#[109]⟩:ByteArray),gI 8] (rNE ((⟨2,7,1,[5],0,[⟨5,3,0,0⟩],[⟨5,3,0,[],true,0⟩],[⟨(⟨(⟨#[109]⟩:ByteArray),1,2,true,1,1⟩:Ch),true,8,noEx,noEx⟩]⟩:zQ),0)):=by
 have h:=zhx (⟨2,7,1,[5],0,[⟨5,3,0,0⟩],[⟨5,3,0,[],true,0⟩],[⟨(⟨(⟨#[109]⟩:ByteArray),1,2,true,1,1⟩:Ch),false,0,noEx,noEx⟩]⟩:zQ) (⟨#[109]⟩:ByteArray) 8 (zbf (by kernel_rfl))
 rwa[show zer (⟨2,7,1,[5],0,[⟨5,3,0,0⟩],[⟨5,3,0,[],true,0⟩],[⟨(⟨(⟨#[109]⟩:ByteArray),1,2,true,1,1⟩:Ch),false,0,noEx,noEx⟩]⟩:zQ) (⟨#[109]⟩:ByteArray) 8=((⟨2,7,1,[5],0,[⟨5,3,0,0⟩],[⟨5,3,0,[],true,0⟩],[⟨(⟨(⟨#[109]⟩:ByteArray),1,2,true,1,1⟩:Ch),true,8,noEx,noEx⟩]⟩:zQ),0)by kernel_rfl]at h
theorem zzY:zu Tryz.prog 20 [jv (⟨2,7,1,[5],0,[⟨5,3,0,0⟩],[⟨5,3,0,[],true,0⟩],[⟨(⟨(⟨#[109]⟩:ByteArray),1,2,true,1,1⟩:Ch),true,8,noEx,noEx⟩]⟩:zQ),gS (⟨#[109]⟩:ByteArray)] (rII (8,0)):=by
 have h:=ze7 (⟨2,7,1,[5],0,[⟨5,3,0,0⟩],[⟨5,3,0,[],true,0⟩],[⟨(⟨(⟨#[109]⟩:ByteArray),1,2,true,1,1⟩:Ch),true,8,noEx,noEx⟩]⟩:zQ) (⟨#[109]⟩:ByteArray) (zbf (by kernel_rfl)).nok
 rwa[show estN (⟨2,7,1,[5],0,[⟨5,3,0,0⟩],[⟨5,3,0,[],true,0⟩],[⟨(⟨(⟨#[109]⟩:ByteArray),1,2,true,1,1⟩:Ch),true,8,noEx,noEx⟩]⟩:zQ) (⟨#[109]⟩:ByteArray)=(8,0)by kernel_rfl]at h
theorem zAc:zu Tryz.prog 36 [jv (⟨2,7,1,[5],0,[⟨5,3,0,0⟩],[⟨5,3,0,[],true,0⟩],[⟨(⟨(⟨#[109]⟩:ByteArray),1,2,true,1,1⟩:Ch),true,8,noEx,noEx⟩]⟩:zQ)] (gB true):=by
 have h:=zqr (⟨2,7,1,[5],0,[⟨5,3,0,0⟩],[⟨5,3,0,[],true,0⟩],[⟨(⟨(⟨#[109]⟩:ByteArray),1,2,true,1,1⟩:Ch),true,8,noEx,noEx⟩]⟩:zQ) (zbf (by kernel_rfl)).nok
 rwa[show zaj (⟨2,7,1,[5],0,[⟨5,3,0,0⟩],[⟨5,3,0,[],true,0⟩],[⟨(⟨(⟨#[109]⟩:ByteArray),1,2,true,1,1⟩:Ch),true,8,noEx,noEx⟩]⟩:zQ)=true by kernel_rfl]at h
theorem zit:zu Tryz.prog 14 [] (gB true):=by
 refine enx [.tmp 0] Tryz.func14 fun X w0=>?_
 repeat'(first|(refine spl ?_ ?_<;>(intro hb;refine ne ?_))|(refine zl hR ?_;clear hR)|refine s1 ?_|exact True.intro|refine cal (zzI) ?_|refine cal (zwQ) ?_|refine cal (zvI) ?_|(refine zk8 rfl rfl (zv6) (by simp[zc9,ev,vle,cle,yT,ja];done) ?_;simp only[push_cast,seval, *])|refine cal (zzp) ?_|refine cal (zyK) ?_|refine cal (zzY) ?_|refine cal (zAc) ?_|(refine s2 ?_;try with_reducible intro R hR)|fail)
 all_goals(exact absurd hb (by simp[zaO]))
def zuu (c:Cal):List F:=[eI c.kd,eI c.v,eS c.nm,eI c.wh,eI c.x,eI c.p.kd,eI c.p.fr,eI c.p.to,eI c.p.bt,eI c.p.lf,eI c.p.ec,eI c.p.el,.l 19 (c.p.its.map yS)]
attribute [push_cast] zuu
attribute [simp] zuu
abbrev cCl (c:Cal):List C:=[.f (eI c.kd),.f (eI c.v),.f (eS c.nm),.f (eI c.wh),.f (eI c.x),.f (eI c.p.kd),.f (eI c.p.fr),.f (eI c.p.to),.f (eI c.p.bt),.f (eI c.p.lf),.f (eI c.p.ec),.f (eI c.p.el),.f (.l 19 (c.p.its.map yS))]
abbrev gCl (c:Cal):V:=.agg (cCl c)
structure zuX (c:Cal):Prop where
 v:I64 c.v
 nm:c.nm.size≤1048576
 p:PkOk c.p
theorem zsL (n:zQ) (c:Cal) (hF:zy n) (hc:zuX c):zu Tryz.prog 41 [jv n,gCl c] (gCm (Ye n c)):=by
 obtain⟨kd,v,nm,wh,x,⟨pk,fr,to,bt,lf,ec,el,its⟩⟩:=c
 obtain⟨hv,hnm,hp⟩:=hc
 simp only at hv hnm hp
 have hnk:=hF.nok
 refine enx [.cell 4 80] Tryz.func41 fun X w0=>?_
 repeat'(first|(refine spl ?_ ?_<;>(intro hb;refine ne ?_))|(refine zl hR ?_;clear hR)|refine s1 ?_|exact True.intro|refine cal (zfa n v hF) ?_|refine cal (ziG n v hF hv) ?_|refine cal (zbW n nm wh x hF) ?_|refine cal (zix n nm hF) ?_|refine cal (zhx n nm x hF) ?_|refine cal (zfz n hF) ?_|refine cal (zbm n ⟨pk,fr,to,bt,lf,ec,el,its⟩ hF hp) ?_|(refine s2 ?_;try with_reducible intro R hR)|fail)
 (all_goals(repeat(first|clear hR|clear hRA|clear hRn|clear hRr|clear hRe|clear hRL)))
 all_goals(simp only[beq_iff_eq,beq_eq_false_iff_ne,ne_eq]at*)
 all_goals(simp[Ye, *])
end Go.Proofs.YtbcbnfiedgnfpaaGreat
namespace Go.Proofs.YtbcbnfiedgnfpaaGreat
open Go.Dl Go.ChangeShapes Go.WideShapes Go.ChangeAt Go.RowKit Go.Joins Go.Deep Go.Ed
section
theorem zqm {H:Type} {enc:TypeId×Value→H} {C:Checked} {os:Os} {f:FuncId} {fn:Func} {s:ChangeSpec} {tb:TypeId} {F:Stop.Interp}
  (own:ownKnob C.prog.godebug=none) (started:os.Started) (noInit:C.prog.inits.idxOf? f=none) (hfn:C.prog.funcs[f]? =some fn)
  (witness: ∃(w:World) (tape:Tape) (i:Input),w.os=os∧(w.forCall tape i).Shaped C.prog∧i.vars=[]∧Input.okWide C.prog (w.forCall tape i) .any w.heap.size f i∧
   (Rows.OpenSpec.upto s).pre6 enc C.prog fn [] false (w.forCall tape i).memory i.args∧Assume.holds {} C.prog (lone (Frame.enter C.prog f i.args .normal) [] (w.forCall tape i)))
  (hl:laidOutB C.prog=true) (hpar:fn.params.toList.all (fun t=>C.prog.readableRec t&&decide (t<C.prog.types.size))=true)
  (hres:fn.resultTypes= #[tb]) (hb:C.prog.underlying tb=some .bool) (hv:s.vars=[])
  (hs: ∀ds:List (DataW H),ds.length=fn.params.size→s.fn H (ds++[])= {results:=[.lit (.bool true)],args:=ds})
  (walk: ∀(W:World) (base:Nat) (args:Array Value) (ds:List (DataW H)) (p:List MemPlace),
   (∀(j:Nat) t v,fn.params[j]? =some t→args[j]? =some v→Value.okWide C.prog W .any base t v)→
   DataW.TrodAll enc C.prog W 0 (fun _=>true) true fn.params.toList args.toList ds p→
   Rows.uptoBulkAll ds≤1048576→
   Calls C.prog f args W fun e W'=>e= .returned (.bool true)∧Below W.heap.size W W'):
  ReturnsInHanded {} C os f .any ((Rows.OpenSpec.upto s).pre6 enc C.prog fn [] false) (((Rows.OpenSpec.upto s).at F).post enc C.prog fn false true false false):=by
 refine returnsInHanded_of_cond (C:=C) (s:=Rows.OpenSpec.upto s) (k:=Rows.uptoSmall) rfl own started noInit hfn witness ?_
 intro W base args ds gs before hval hW _ hk _
 have hW':=hW
 obtain⟨p,q,hA,hV,rfl,_,_⟩:=hW
 have hV':DataW.TrodVars enc C.prog W (fun _=>true) s.vars gs q:=hV
 rw[hv]at hV'
 obtain⟨rfl,rfl⟩:=trodVars_none hV'
 have hlen:ds.length=fn.params.size:=by
  have: ∀(ts:List TypeId) (vs:List Value) (ds:List (DataW H)) (ps:List MemPlace),DataW.TrodAll enc C.prog W 0 (fun _=>true) true ts vs ds ps→ds.length=ts.length:=by
   intro ts
   induction ts with
   |nil=>intro vs ds ps h;cases vs<;>cases ds<;>first|rfl|exact h.elim
   | cons t ts ih=>
    intro vs ds ps h
    cases vs with
    |nil=>exact h.elim
    | cons v vs=>
     cases ds with
     |nil=>exact h.elim
     |cons d ds=>
      obtain⟨p,q,_,h2,_⟩:=h
      simp[ih vs ds q h2]
  simpa using this _ _ _ _ hA
 have hk':=of_decide_eq_true hk
 rw[List.append_nil]at hk'
 refine(walk W base args ds p hval hA hk').mono fun e W' ⟨he,bel⟩=>?_
 subst he
 refine⟨_,rfl,ds,[],_,[],p,[],hW',?_,?_,?_,bel.frame _,fun h=>by cases h⟩
 ·show DataW.TrodAll enc C.prog W' W.heap.size _ _ _ _ (s.fn H (ds++[])).results _
  rw[hs ds hlen,hres]
  exact trodAll_mk1 (shut_bool hb _)
 ·show DataW.TrodAll enc C.prog W' 0 _ _ _ _ (s.fn H (ds++[])).args _
  rw[hs ds hlen]
  exact zbn hl bel _ _ _ _ hpar hA
 ·show DataW.TrodVars enc C.prog W' _ s.vars (s.fn H (ds++[])).vars _
  rw[hv,hs ds hlen]
  rfl
theorem zn3 {P:Program} {f:FuncId} {args:List V} (h:zu P f args (gB true)) (W:World) (us:Array Value) (hl:args.length=us.size) (hr: ∀(j:Nat) v u,args[j]? =some v→us[j]? =some u→qr W (.pure (fun b=>b<W.heap.size)) v u):
  Calls P f us W fun e W'=>e= .returned (.bool true)∧Below W.heap.size W W':=
 (h.2 W us (fun b=>b<W.heap.size) (fun _ hb=>hb) hl hr).mono fun e W' ⟨u,I',he,hu,hb,_⟩=>by
  cases hu with
  | c hu=>cases hu with
   |f hu=>cases hu with
    |s=>exact⟨he,hb⟩
theorem zoD {w:World} {I:Nat→Prop} {xs:List F} {us:Array Value} (h:RepFs w I xs us.toList):qr w (.pure I) (.agg (xs.map .f)) (.agg us):=
 .agg ⟨by rw[List.length_map];exact h.1,fun j x u hx hu=>by
  rw[List.getElem?_map]at hx
  cases hq:xs[j]? with
  |none=>rw[hq]at hx;cases hx
  |some y=>rw[hq]at hx;cases hx;exact .f (h.2 j y u hq hu)⟩
section
variable {H:Type} {enc:TypeId×Value→H} {w:World} {B base:Nat} {d:DataW H} {ps:List MemPlace} {v:Value}
theorem zva (ok:Value.okWide Tryz.prog w .any base 27 v) (h:DataW.Trod enc Tryz.prog w 0 (fun _=>true) true 27 v d ps) (hb:Rows.uptoBulk d≤1048576): ∃n:zQ,NIn n∧qr w (.pure (fun b=>b<w.heap.size)) (jv n) v:=by
 obtain⟨vs,rfl,_⟩:=okWide_struct Tryz.underlying27 ok
 obtain⟨m,hm⟩:=h
 obtain⟨n,hn,hr⟩:=zsh hm hb
 exact⟨n,hn,zoD hr⟩
theorem zxZ:Tryz.prog.cellsOf 83=13:=by kernel_rfl
variable {fuel:Nat} {cs:List Value} {y:DataW H×List MemPlace}
theorem ztT (h:DataW.trod enc Tryz.prog w 0 (fun _=>true) true fuel 83 cs=some y) (hb:Rows.uptoBulk y.1≤1048576): ∃c:Cal,zuX c∧RepFs w (fun b=>b<w.heap.size) (zuu c) cs:=by
 obtain⟨hl,hf⟩:=yC Tryz.underlying83 zxZ h hb
 match cs,hl with
 |[c0,c1,c2,c3,c4,c5,c6,c7,c8,c9,c10,c11,c12],_=>
  obtain⟨_,_,g0,_⟩:=hf 0 _ rfl
  obtain⟨_,_,g1,_⟩:=hf 1 _ rfl
  obtain⟨_,_,g2,b2⟩:=hf 2 _ rfl
  obtain⟨_,_,g3,_⟩:=hf 3 _ rfl
  obtain⟨_,_,g4,_⟩:=hf 4 _ rfl
  obtain⟨_,_,g5,b5⟩:=hf 5 _ rfl
  simp[Zb,JO,zc2,zg7]at g0 g1 g2 g3 g4 g5
  obtain⟨n0,r0,i0⟩:=qp Tryz.underlying3 g0
  obtain⟨n1,r1,i1⟩:=qp Tryz.underlying3 g1
  obtain⟨n2,r2,i2⟩:=zjn Tryz.underlying9 g2 b2
  obtain⟨n3,r3,i3⟩:=qp Tryz.underlying3 g3
  obtain⟨n4,r4,i4⟩:=qp Tryz.underlying2 g4
  obtain⟨p,hp,hr⟩:=zoh g5 b5
  simp only[List.cons.injEq,and_true]at r0 r1 r2 r3 r4
  subst r0 r1 r2 r3 r4
  refine⟨⟨n0,n1,n2,n3,n4,p⟩,⟨i1,i2,hp.ok⟩,rfl,fun j x u hx hu=>?_⟩
  match j with
  |0=>cases hx;cases hu;exact .s rfl
  |1=>cases hx;cases hu;exact .s rfl
  |2=>cases hx;cases hu;exact .s rfl
  |3=>cases hx;cases hu;exact .s rfl
  |4=>cases hx;cases hu;exact .s rfl
  |j+5=>exact hr.2 j x u hx hu
abbrev zD5 (l:List Cal):V:=.c (.f (.l 13 (l.map zuu)))
theorem zCy (ok:Value.okWide Tryz.prog w .any base 85 v) (h:DataW.Trod enc Tryz.prog w 0 (fun _=>true) true 85 v d ps) (hb:Rows.uptoBulk d≤1048576): ∃l:List Cal,(l.length≤1048576∧∀c∈l,zuX c)∧qr w (.pure (fun b=>b<w.heap.size)) (zD5 l) v:=by
 obtain⟨a,n,k,rfl⟩:=okWide_slice Tryz.underlying85 ok
 obtain⟨m,hm⟩:=h
 obtain⟨l,u,r,k1,k2,k3⟩:=Q1 (encA:=zuu) (Good:=zuX) Tryz.underlying85 zxZ (by decide) (fun _=>rfl) (fun _ _ _ h hb=>ztT h hb) hm hb
 simp only[Value.cells,List.cons.injEq,and_true]at r
 subst r
 exact⟨l,⟨k2,k3⟩,.c (.f k1)⟩
end
theorem zrr {P:Program} {f:FuncId} {fn:Func} {s:ChangeSpec} {c:OpenClaim} (h1:c.inPlace=P.inPlace f) (h2:c.unfollowed=P.unfollowed f) (h3:c.recurses=P.recurses f) (h4:c.named=P.varsNamed f)
  (rest:(c.wf (OpenSpec.ofChange s)&&laidOutB P&&mapsRowed P&&
 fn.params.all (P.readableRec ·)&&namedTie P c.named s.vars&&
 (c.stops==[])&&(P.stops==[])&&(c.knobs==[])&&(P.stopKnobs==[])&&
 (c.maps==(fn.params.toList++s.plain.varTypes P).any (P.mapsRec ·))&&(c.ifaces==(fn.params.toList++s.plain.varTypes P).any (P.ifacesRec ·))&&(c.mapsOut==P.mapsAmong fn.resultTypes.toList)&&
 (c.loops==(fn.params.toList++s.plain.varTypes P).any (P.loopsFrom ·))&&(c.wideKeys==(fn.params.toList++s.plain.varTypes P++fn.resultTypes.toList).any (P.wideKeysFrom ·))&&
 s.vars.all (P.varReadable ·)&&fn.resultTypes.all (fun t=>P.readableRec t&&decide (t<P.types.size))&&(c.ifacesOut==fn.resultTypes.toList.any (P.ifacesRec ·))&&(c.loopsOut==fn.resultTypes.toList.any (P.loopsFrom ·))&&(c.plainKeys==P.plainKeys)&&c.shortTexts.isNone&&P.stopsHeard&&P.mayEnter&&(c.lifted==P.liftsFinal)&&(P.make==some c.make)&&(c.kinds==(if c.domain.isEmpty then []else fn.params.toList.map fun t=>match P.underlying t with|some (.int k)=>some k| _=>none))&&(c.pinned==c.pinnedBy)&&
 (c.veiled==(fn.params.toList++s.plain.varTypes P++fn.resultTypes.toList).any (P.veiledRec ·))&&c.veiledFits P fn.params.toList (fn.params.toList++s.plain.varTypes P++fn.resultTypes.toList))=true):
  joinedFacts P f fn s c=true:=by
 have g1:(c.inPlace==P.inPlace f)=true:=by rw[h1];exact beq_self_eq_true _
 have g2:(c.unfollowed==P.unfollowed f)=true:=by rw[h2];exact beq_self_eq_true _
 have g3:(c.recurses==P.recurses f)=true:=by rw[h3];exact beq_self_eq_true _
 have g4:(c.named==P.varsNamed f)=true:=by rw[h4];exact beq_self_eq_true _
 unfold joinedFacts
 rw[g1,g2,g3,g4,Bool.and_true,Bool.and_true,Bool.and_true,Bool.and_true]
 exact rest
theorem own:ownKnob Tryz.prog.godebug=none:=by kernel_rfl
theorem zvj:laidOutB Tryz.prog=true:=by kernel_rfl
end
end Go.Proofs.YtbcbnfiedgnfpaaGreat
namespace Go.Proofs.YtbcbnfiedgnfpaaGreat.nodeNever
open Go.Dl Go.ChangeShapes Go.WideShapes Go.ChangeAt Go.RowKit Go.Joins Go.Deep Go.Ed
attribute [local irreducible] DW yE zY zA zu zky
attribute [local push_cast] zZ qF qC zN zM zD zE qH qE qz Go.Dl.qY yT qy List.mem_cons List.not_mem_nil or_false forall_eq false_implies implies_true
theorem zD3 (a b:zQ) (ha:zy a) (hb0:zy b) (hw:Fwd a b):zu Tryz.prog 44 [jv a,jv b] (gB true):=by
 have la:=qt ha.seen
 have lb:=qt hb0.seen
 have oa:=ha.hok
 have ob:=hb0.hok
 have ca:=ha.nok.ch
 have cb:=hb0.nok.ch
 replace hw:=Lib.hid hw
 refine enx [.tmp 4] Tryz.func44 fun X w0=>?_
 repeat'(first|(refine spl ?_ ?_<;>(intro hb;refine ne ?_))|(refine zl hR ?_;clear hR)|refine s1 ?_|exact True.intro|((with_reducible refine zO ?_);refine frx (ι:=Unit) (16) (fun k _=>St.ofA [(2,.loc 2 0),(3,.loc 3 0),(5,gI k)] [(2,27,cNd a),(3,27,cNd b)] []) (fun _ _=>True) () ?_ (fun k x hJk hkk R hR=>?_))|((with_reducible refine qn ?_);have htk:True:=hJk;clear hJk;have hkl:k<16:=(by omega);obtain⟨hs1,hs2⟩:=(show Fwd a b from hw).seen k;have hhf:=(show Fwd a b from hw).half k;unfold hasP at hhf;have c1:=jD a.seen k (by omega);have c2:=jD b.seen k (by omega);have c3:=ql a.hv k oa;have c4:=ql b.hv k ob;have l1:=jq ha k;have l2:=jq hb0 k;generalize getS a.seen (k:Int)=sa at hs1 hs2 c1;generalize getS b.seen (k:Int)=sb at hs1 hs2 c2;generalize findH (k:Int) a.hv=u1 at hhf c3 l1;generalize findH (k:Int) b.hv=u2 at hhf c4 l2;have c5:=QI sa.bt sa.sq sb.bt sb.sq;rw[hs1]at c5;have e5: ¬sb.tm<sa.tm:=(by omega);obtain⟨⟨p1,b1,f1,ls1,pe1,mi1⟩,w1⟩:=u1;obtain⟨⟨p2,b2,f2,ls2,pe2,mi2⟩,w2⟩:=u2;simp only at hhf l1 l2;cases w1<;>cases w2;(all_goals(try obtain⟨hh1,hh2⟩:=hhf rfl rfl));(all_goals(try(have c6:=QI b1 f1 b2 f2;rw[hh1]at c6)));(all_goals(clear hhf)))|refine cal (c1) ?_|refine cal (c2) ?_|refine cal (c3) ?_|refine cal (c4) ?_|refine cal (c5) ?_|refine cal (c6) ?_|(have e1:b1=b2:=(by grind);have e2:f1=f2:=(by grind);have h3:=hh2 e1 e2;clear e1 e2;((with_reducible refine zO ?_);refine frx (ι:=Unit) (a.ch.length) (fun j _=>St.ofA [(2,.loc 2 0),(3,.loc 3 0),(5,gI k),(8,.loc 8 0),(10,.loc 10 0),(12,gI j)] [(2,27,cNd a),(3,27,cNd b),(8,43,cH ⟨p1,b1,f1,ls1,pe1,mi1⟩),(10,43,cH ⟨p2,b2,f2,ls2,pe2,mi2⟩)] []) (fun _ _=>True) () ?_ (fun j y hJj hkj R hR=>?_));rotate_left;clear hh2)|((with_reducible refine qn ?_);have htj:True:=hJj;clear hJj;have hjl:j<a.ch.length:=(by omega))|((with_reducible refine zO ?_);refine frx (ι:=Unit) (b.ch.length) (fun i _=>St.ofA [(2,.loc 2 0),(3,.loc 3 0),(5,gI k),(8,.loc 8 0),(10,.loc 10 0),(12,gI j),(13,.loc 13 0),(14,gI i)] [(2,27,cNd a),(3,27,cNd b),(8,43,cH ⟨p1,b1,f1,ls1,pe1,mi1⟩),(10,43,cH ⟨p2,b2,f2,ls2,pe2,mi2⟩),(13,99,cC a.ch[j].c)] []) (fun _ _=>True) () ?_ (fun i z hJi hki R hR=>?_))|((with_reducible refine qn ?_);have hti:True:=hJi;clear hJi;have hil:i<b.ch.length:=(by omega);have c7:=zah p1 b1 f1 ls1 pe1 mi1 a.ch[j].c.nm l1;have c8:=zah p2 b2 f2 ls2 pe2 mi2 a.ch[j].c.nm l2;have key:zel b.ch[i].c a.ch[j].c=true→newR (findL a.ch[j].c.nm ls1).1 (findL a.ch[j].c.nm ls1).2.1 (findL a.ch[j].c.nm ls2).1 (findL a.ch[j].c.nm ls2).2.1=false:=(fun hq=>h3 _ (List.mem_map.2 ⟨_,List.getElem_mem hjl,rfl⟩) (by rw[←ziF hq];exact List.mem_map.2 ⟨_,List.getElem_mem hil,rfl⟩));generalize findL a.ch[j].c.nm ls1=r1 at c7 key;generalize findL a.ch[j].c.nm ls2=r2 at c8 key;obtain⟨v1,q1,g1⟩:=r1;obtain⟨v2,q2,g2⟩:=r2;have c9:=zk4 v1 q1 g1 v2 q2 g2;unfold zel at key;simp only at key)|refine rdb [] ?_|refine cad (c7) ?_|refine cad (c8) ?_|refine cad (c9) ?_|refine lat ?_|refine fnx (()) ?_ ?_|(refine s2 ?_;try with_reducible intro R hR)|fail)
 all_goals(first|trivial|(exfalso;grind))
theorem zDN {ps:List qO} {k:Nat} (h:k<ps.length):askd (ps.take (k+1))=if ps[k].kd=3 then askd (ps.take k)++[ps[k].to]else askd (ps.take k):=by
 rw[List.take_succ_eq_append_getElem h,zBZ]
 unfold askd
 by_cases hk:ps[k].kd=3<;>simp[hk]
theorem zEo {ps:List qO} {k:Nat} (h:k<ps.length) (hk:ps[k].kd=3) (hn:(askd ps).Nodup):ps[k].to∉askd (ps.take k):=fun hm=>by
 have e:ps=ps.take (k+1)++ps.drop (k+1):=(List.take_append_drop _ _).symm
 rw[e,zBZ,zDN h,if_pos hk]at hn
 have h1:=(List.nodup_append.1 (List.nodup_append.1 hn).1).2.2
 exact h1 _ hm _ (List.mem_singleton.2 rfl) rfl
theorem zE8 (n:zQ) (ps:List qO) (es:List ZF) (hk0:zy n) (ha:zC2 ⟨n,ps,es⟩) (hl:ps.length≤100):zu Tryz.prog 45 [jv n,gPs ps] (gB true):=by
 have oa:=hk0.hok
 replace ha:=Lib.hid ha
 refine enx [.tmp 4] Tryz.func45 fun X w0=>?_
 repeat'(first|(refine spl ?_ ?_<;>(intro hb;refine ne ?_))|(refine zl hR ?_;clear hR)|refine s1 ?_|exact True.intro|((with_reducible refine zO ?_);refine zgC 5 90 3 1 ?_;refine frx (ι:=List Int×Nat) (ps.length) (fun k x=>St.ofA [(1,gPs ps),(2,.loc 2 0),(5,.c (.o 90)),(6,gI k)] [(2,27,cNd n)] [(90,x.2,3,1,x.1.map Z3)]) (fun k x=>askd (ps.take k)=x.1∧x.1.length≤k) ([],90) ?_ (fun k x hJ hk R hR=>?_))|((with_reducible refine qn ?_);obtain⟨j1,j2⟩:=hJ;have hkl:k<ps.length:=(by omega);have hst:=zDN hkl;rw[j1]at hst;by_cases hk3:ps[k].kd=3;(case' pos=>(have a1:=(show zC2 ⟨n,ps,es⟩from ha).one ps[k] (List.getElem_mem hkl) hk3;have a2:=zEo hkl hk3 (show zC2 ⟨n,ps,es⟩from ha).nd;rw[j1]at a2;rw[if_pos hk3]at hst;obtain⟨b1,b2,b3,b4⟩:=a1;unfold hasP at b1;have c3:=ql n.hv ps[k].to oa;simp only at b1 b2 b3 b4;generalize findH ps[k].to n.hv=u at b1 b2 b3 b4 c3;obtain⟨⟨hp,hbo,hli,hls,hpe,hmi⟩,w⟩:=u;simp only at b1 b2 b3 b4;subst b1 b2;replace b3:=beq_iff_eq.2 b3;replace b4:=beq_iff_eq.2 b4));(case' neg=>(rw[if_neg hk3]at hst)))|((with_reducible refine zO ?_);refine frx (ι:=Unit) (x.1.length) (fun j _=>St.ofA [(1,gPs ps),(2,.loc 2 0),(5,.c (.o 90)),(6,gI k),(9,gI j)] [(2,27,cNd n)] [(90,90,3,1,x.1.map Z3)]) (fun _ _=>True) () ?_ (fun j y hJj hkj R hR=>?_))|((with_reducible refine qn ?_);have htj:True:=hJj;clear hJj;have hjl:j<x.1.length:=(by omega);have a3: ¬x.1[j]=ps[k].to:=(fun e=>a2 (by rw[←e];exact List.getElem_mem hjl)))|refine rdb [] ?_|refine rdb [7] ?_|refine cad (c3) ?_|refine lat ?_|refine fnx (()) ?_ ?_|refine fnx ((x.1,90)) ?_ ?_|refine fnx ((x.1++[ps[k].to],83)) ?_ ?_|(refine s2 ?_;try with_reducible intro R hR)|fail)
 all_goals(first|trivial|(exfalso;grind)|grind[Z3])
theorem law_c (n:zQ) (l:List Cal) (hn:NIn n) (hl:l.length≤1048576) (hc: ∀c∈l,zuX c):zu Tryz.prog 12 [jv n,zD5 l] (gB true):=by
 have hok:=hn.ok
 by_cases hf:zaj n=true
 ·have hfit:=zgv n hok
  rw[show zaj n=true from hf]at hfit
  replace hc:=Lib.hid hc
  replace hf:=Lib.hid hf
  refine enx [.tmp 4] Tryz.func12 fun X w0=>?_
  repeat'(first|(refine spl ?_ ?_<;>(intro hb;refine ne ?_))|(refine zl hR ?_;clear hR)|refine s1 ?_|exact True.intro|refine cal (hfit) ?_|refine cal (qw n hok) ?_|refine cal (zit) ?_|((with_reducible refine zO ?_);refine frx (ι:=zQ) (l.length) (fun k x=>St.ofA [(1,zD5 l),(5,.loc 5 0),(6,gI k)] [(5,27,cNd x)] []) (fun _ x=>zaj x=true) n ?_ (fun k x hJk hkk R hR=>?_))|((with_reducible refine qn ?_);have hkl:k<l.length:=(by omega);have j1:=hJk;clear hJk;have hck:=(show∀c∈l,zuX c from hc) l[k] (List.getElem_mem hkl);have hd:=zsL x l[k] (zbf j1) hck;obtain⟨v1,v2,v3,v4⟩:=zFG l[k] (zbf j1);have hkw:=(zsm l[k] j1).1;have hfw:=(zuy l[k] (zbf j1)).1;generalize Ye x l[k]=w at hd v1 v2 v3 v4 hkw hfw;obtain⟨⟨m,ps,es⟩,r⟩:=w;simp only at v1 v3 v4 hkw hfw;replace v3:(m.id !=x.id)=false:=(by simpa using v3);replace v4:(m.bt !=x.bt)=false:=(by simpa using v4);have c1:=zD3 x m (zbf j1) (zbf hkw) v1;have c2:=zE8 m ps es (zbf hkw) v2 hfw;replace v1:=Lib.hid v1;replace v2:=Lib.hid v2;replace hkw:=Lib.hid hkw)|refine rdb [] ?_|refine rdb [7] ?_|refine cad (hd) ?_|refine lat ?_|refine cal (c1) ?_|refine cal (c2) ?_|refine fnx (m) ?_ ?_|(refine s2 ?_;try with_reducible intro R hR)|fail)
  all_goals(first|exact hkw|exact hf|trivial|(exfalso;simp at hb;done)|trace_state)
 ·have hfit:=zgv n hok
  rw[show zaj n=false by simpa using hf]at hfit
  refine enx [.tmp 4] Tryz.func12 fun X w0=>?_
  repeat'(first|(refine spl ?_ ?_<;>(intro hb;refine ne ?_))|(refine zl hR ?_;clear hR)|refine s1 ?_|exact True.intro|refine cal (hfit) ?_|refine cal (zit) ?_|(refine s2 ?_;try with_reducible intro R hR)|fail)
set_option maxRecDepth 100000 in
theorem lifted (os:Os) (started:os.Started) (H:Type) (enc:TypeId×Value→H) (F:Stop.Interp):
  ReturnsInHanded {} Tryz.checked os 12 .any ((Rows.OpenSpec.upto Rows.nodeNeverSpec).pre6 enc Tryz.prog Tryz.f12 Rows.nodeNeverUptoRow.domain false) (((Rows.OpenSpec.upto Rows.nodeNeverSpec).at F).post enc Tryz.prog Tryz.f12 false true false false):=by
 refine zqm (C:=Tryz.checked) own started (by kernel_rfl) Tryz.func12
  (OpenSpec.witness (enc:=enc) (C:=Tryz.checked) (s:=Rows.OpenSpec.upto Rows.nodeNeverSpec) (k:=Rows.uptoSmall) rfl false ⟨#[],#[.agg #[.int .i64 0,.int .i64 0,.int .i64 0,.slice none 0 0,.int .i64 0,.slice none 0 0,.slice none 0 0,.slice none 0 0],.slice none 0 0],[]⟩ 8 (by kernel_rfl) (by kernel_rfl) (by kernel_rfl)
   (x:=([.agg [.lit (.int .i64 0),.lit (.int .i64 0),.lit (.int .i64 0),.nil,.lit (.int .i64 0),.nil,.nil,.nil],.nil],[],[])) (by kernel_rfl) rfl (by kernel_rfl))
  zvj (by kernel_rfl) rfl Tryz.underlying4 rfl (fun ds h=>by match ds,h with|[d0,d1],_=>rfl) ?_
 intro W base args ds p hval0 hA0 hb
 have hval: ∀(j:Nat) t v,Tryz.f12.params[j]? =some t→args[j]? =some v→Value.okWide Tryz.prog W .any base t v:=hval0
 have hA:DataW.TrodAll enc Tryz.prog W 0 (fun _=>true) true Tryz.f12.params.toList args.toList ds p:=hA0
 rw[Tryz.params12]at hA hval
 clear hA0 hval0
 obtain⟨v0,vs0,d0,ds0,p0,q0,hargs,rfl,rfl,h0,r0⟩:=trodAll_cons hA
 obtain⟨v1,vs1,d1,ds1,p1,q1,rfl,rfl,rfl,h1,r1⟩:=trodAll_cons r0
 obtain⟨rfl,rfl,rfl⟩:=trodAll_nil r1
 obtain rfl:=zfm hargs
 simp only[Rows.uptoBulkAll]at hb
 obtain⟨x0,g0,k0⟩:=zva (hval 0 27 v0 rfl rfl) h0 (by omega)
 obtain⟨x1,g1,k1⟩:=zCy (hval 1 85 v1 rfl rfl) h1 (by omega)
 exact zn3 (law_c x0 x1 g0 g1.1 g1.2) W _ rfl (fun j v u hv hu=>by
  match j with
  |0=>cases hv;cases hu;exact k0
  |1=>cases hv;cases hu;exact k1
  |j+2=>cases hv)
theorem zzW:Rows.nodeNeverUptoRow.inPlace=Tryz.prog.inPlace 12:=by kernel_rfl
theorem zug:Rows.nodeNeverUptoRow.unfollowed=Tryz.prog.unfollowed 12:=by kernel_rfl
theorem zyJ:Rows.nodeNeverUptoRow.recurses=Tryz.prog.recurses 12:=by rw[Program.recurses,←zug];rfl
theorem zzJ:Rows.nodeNeverUptoRow.named=Tryz.prog.varsNamed 12:=by kernel_rfl
theorem zAT:joinedFacts Tryz.prog 12 Tryz.f12 (Rows.OpenSpec.upto Rows.nodeNeverSpec).bare Rows.nodeNeverUptoRow=true:=zrr zzW zug zyJ zzJ (by kernel_rfl)
theorem proved:Rows.NodeNeverUptoSaid:=
 OpenClaim.holds_of_cond 12 Tryz.f12 rfl rfl rfl rfl rfl rfl rfl ⟨rfl,rfl,rfl,rfl,rfl⟩ rfl rfl rfl rfl rfl (by kernel_rfl) Tryz.func12 zAT
  (of_decide_eq_true (by kernel_rfl)) (by unfold Func.isWrapper;first|(rw[if_pos (by decide+kernel)];kernel_rfl)|(rw[if_neg (by decide+kernel)];exact⟨rfl,rfl⟩))
  (fun os started H enc _ F=>lifted os started H enc F)
end Go.Proofs.YtbcbnfiedgnfpaaGreat.nodeNever
