import Derived.Test.YtbcbnfiedgnfpaaGreatZ23
set_option linter.unusedSimpArgs false
set_option linter.unusedVariables false
set_option maxRecDepth 100000
set_option maxHeartbeats 2000000
namespace Go.Proofs.YtbcbnfiedgnfpaaGreat
open Go.Dl
theorem zbI (o:Option ByteArray) (x:It) (l:List It):ZV o (x::l)=(itmB x&&(match o with|none=>true|some q=>Op.bytesLess q.toList x.c.nm.toList)&&ZV (some x.c.nm) l):=rfl
theorem zik: ∀ {l:List It} {o:Option ByteArray},ZV o l=true↔Qb (l.map (·.c))∧(∀x∈l,itmB x=true)∧∀q,o=some q→∀x∈l,Op.bytesLess q.toList x.c.nm.toList=true
 |[],o=>by simp[ZV,Qb]
 | x::l,o=>by
  have ih:=zik (l:=l) (o:=some x.c.nm)
  have e:ZV o (x::l)=true↔itmB x=true∧(∀q,o=some q→Op.bytesLess q.toList x.c.nm.toList=true)∧ZV (some x.c.nm) l=true:=by
   rw[zbI];cases o<;>simp[and_assoc]
  rw[e,ih]
  simp only[Qb,List.map_cons,List.pairwise_cons,List.mem_cons,forall_eq_or_imp,Option.some.injEq,forall_eq',List.mem_map,forall_exists_index,and_imp,forall_apply_eq_imp_iff₂]
  constructor
  ·rintro⟨h1,h2,h3,h4,h5⟩
   exact⟨⟨h5,h3⟩,⟨h1,h4⟩,fun q hq=>⟨h2 q hq,fun y hy=>Zg (h2 q hq) (h5 y hy)⟩⟩
  ·rintro⟨⟨h5,h3⟩,⟨h1,h4⟩,h6⟩
   exact⟨h1,fun q hq=>(h6 q hq).1,h3,h4,h5⟩
theorem zwz (n:zQ) (h:Hf) (peer:Int) (rests:Bool) (s:Tt):(ZB n h peer rests s).c=s.c:=by unfold ZB;(repeat' split)<;>rfl
theorem zqP (n:zQ) (peer:Int) (rests:Bool):(qa n peer rests).map (·.c)=recT n.ch:=by
 unfold qa;rw[List.map_map];exact List.map_congr_left fun s _=>zwz ..
theorem zqQ {s:Int} (h:(zeu s).2=0):flowB (zeu s).1=true:=by
 unfold zeu at h ⊢;split
 ·rename_i hc;exact hc
 ·rename_i hc;rw[if_neg hc]at h;cases h
theorem zhf {nm:ByteArray}: ∀ {l:List Ln},findL nm l=noG∨∃x∈l,x.nm=nm∧findL nm l=zlq x
 |[]=>.inl rfl
 | x::l=>by
  rw[findL]
  split
  ·rename_i hq;exact .inr ⟨x,List.mem_cons_self ..,zf3 hq,rfl⟩
  ·rcases zhf (nm:=nm) (l:=l)with h|⟨y,hy,h⟩
   ·exact .inl h
   ·exact .inr ⟨y,List.mem_cons_of_mem _ hy,h⟩
theorem zhV {a p:Int} {x:Ln}:zdX a p x=true↔jr x.nm=true∧Qd x.ver x.wt x.fl a p=true∧ZK (zlq x)=false:=by
 simp only[zdX,ZK,zlq,Bool.and_eq_true,Bool.not_eq_true']
 grind
theorem zla {v w f a b:Int}:Qd v w f a b=true↔nodeB a=true∧nodeB b=true∧a≠b∧((v=0∧w=0∧f=0)∨(1≤v∧v≤1099511627776∧(w=a∨w=b)∧flowB f=true)):=by
 simp only[Qd,Bool.and_eq_true,Bool.or_eq_true,Bool.not_eq_true',decide_eq_true_eq,decide_eq_false_iff_not,and_assoc]
theorem zDX {g:jQ}:ZK g=true↔g=noG:=by
 obtain⟨a,b,c⟩:=g
 simp[ZK]
theorem zq3 {a p:Int} {nm:ByteArray} {l:List Ln} (ha:nodeB a=true) (hp:nodeB p=true) (hne:a≠p) (h: ∀x∈l,zdX a p x=true):Qd (findL nm l).1 (findL nm l).2.1 (findL nm l).2.2 a p=true:=by
 rcases zhf (nm:=nm) (l:=l)with e|⟨x,hx,_,e⟩
 ·rw[e];exact zla.2 ⟨ha,hp,hne,.inl ⟨rfl,rfl,rfl⟩⟩
 ·rw[e];exact(zhV.1 (h x hx)).2.1
theorem zrh {n:zQ} {peer:Int} {rests:Bool} {s:Tt} (h:zy n) (hp:hasP peer n.hv=true) (hs:s∈n.ch):itmB (ZB n (findH peer n.hv).1 peer rests s)=true:=by
 obtain⟨g1,g2,g3,g4,g5,g6⟩:=zH.1 h.ch
 have hc:=g5 s hs
 have ht:=yM.1 (g6 s hs)
 obtain⟨h1,h2,h3⟩:=h.find hp
 obtain⟨q1,_,_,q2⟩:=z0.1 h1
 rw[zcw,h2]at q1
 rw[h2]at q2
 have hr:=zq3 (nm:=s.c.nm) q1.1 q1.2.1 q1.2.2.1 q2
 have hk:=zoF hc
 have hreg:(decide ((findL s.c.nm (findH peer n.hv).1.lines).1=0)&&decide ((findL s.c.nm (findH peer n.hv).1.lines).2.1=0)&&decide ((findL s.c.nm (findH peer n.hv).1.lines).2.2=0))=true∨(Zo (findL s.c.nm (findH peer n.hv).1.lines).1 1 1099511627776&&nodeB (findL s.c.nm (findH peer n.hv).1.lines).2.1&&flowB (findL s.c.nm (findH peer n.hv).1.lines).2.2)=true:=by
  rcases(zla.1 hr).2.2.2 with⟨e1,e2,e3⟩|⟨e1,e2,e3,e4⟩
  ·left;simp[e1,e2,e3]
  ·right
   have:nodeB (findL s.c.nm (findH peer n.hv).1.lines).2.1=true:=by rcases e3 with e3|e3<;>rw[e3];exact q1.1;exact q1.2.1
   simp[Zo,e1,e2,this,e4]
 unfold ZB
 cases hal:s.c.al
 ·simp[itmB,hc,hal,zrR,zrX]
 ·cases hf:QQ s.c.kd
  ·have h4:s.c.kd=4:=by
    simp only[QQ,Bool.and_eq_false_iff,decide_eq_false_iff_not]at hf;omega
   simp[itmB,hc,hal,h4,zrR,ht.2.2.2.2.1,ht.2.2.2.2.2]
  ·have h4: ¬s.c.kd=4:=by simp only[QQ,Bool.and_eq_true,decide_eq_true_eq]at hf;omega
   simp only[Bool.and_self,if_true]
   split
   ·rename_i hq
    simp only[Bool.and_eq_true,decide_eq_true_eq]at hq
    have hfl:flowB (Yt n.id s.inp n.hv s.c.nm peer).1=true:=zqQ hq.2
    simp only[itmB,hc,hal,h4,zrR,zrX,hfl]
    simp only[Bool.true_and,decide_false,Bool.not_false,if_true,Bool.true_or,Bool.and_true,Bool.and_false,Bool.false_eq_true,if_false,decide_true,Bool.and_self,Bool.or_eq_true]
    exact hreg
   ·simp only[itmB,hc,hal,h4,zrR,zrX]
    have:flowB 0=true:=rfl
    simp only[this,Bool.true_and,decide_false,Bool.not_false,if_true,Bool.true_or,Bool.or_true,Bool.and_true,Bool.and_false,Bool.false_eq_true,if_false,decide_true,Bool.and_self,Bool.or_eq_true]
    exact hreg
theorem zhZ {n:zQ} {peer:Int} {rests:Bool} (h:zy n) (hp:hasP peer n.hv=true):(qa n peer rests).length≤8∧ZV none (qa n peer rests)=true:=by
 obtain⟨g1,g2,g3,g4,g5,g6⟩:=zH.1 h.ch
 refine⟨by unfold qa;simpa using g3,zik.2 ⟨by rw[zqP];exact g4,fun x hx=>?_,by simp⟩⟩
 obtain⟨s,hs,rfl⟩:=List.mem_map.1 hx
 exact zrh h hp hs
theorem zl5 {p:qO}:jb p=true↔1≤p.kd∧p.kd≤5∧nodeB p.fr=true∧nodeB p.to=true∧p.fr≠p.to∧(1≤p.bt∧p.bt≤1099511627776)∧(0≤p.lf∧p.lf≤1099511627776)∧(if p.kd=1 then p.ec=0∧p.el=0 else(1≤p.ec∧p.ec≤1099511627776)∧0≤p.el∧p.el≤1099511627776)∧(if p.kd=3∨p.kd=4 then p.its.length≤8∧ZV none p.its=true else p.its=[]):=by
 simp only[jb,Bool.and_eq_true,Zo,decide_eq_true_eq,Bool.not_eq_true',decide_eq_false_iff_not,and_assoc]
 by_cases h1:p.kd=1<;>by_cases h2:p.kd=3∨p.kd=4<;>simp only[h1,h2,if_true,if_false,Bool.and_eq_true,decide_eq_true_eq,List.length_eq_zero_iff]<;>grind
def POk (n:zQ) (p:qO):Prop:=jb p=true∧p.fr=n.id
def zaK (w:Wk):Prop:=∀p∈w.ps,POk w.n p
theorem POk.same {m n:zQ} {p:qO} (h:POk m p) (hs:Qz m n):POk n p:=⟨h.1,by rw[hs.id];exact h.2⟩
theorem zjr {n:zQ} {kd peer ec el:Int} {its:List It} (h:zy n) (hp:nodeB peer=true) (hne:peer≠n.id) (hk:2≤kd∧kd≤5) (he:1≤ec∧ec≤1099511627776) (hl:0≤el∧el≤1099511627776) (hi:if kd=3∨kd=4 then its.length≤8∧ZV none its=true else its=[]):POk n (jS n kd peer ec el its):=by
 have hs:=zba h.seen peer
 simp only[zdg]at hs
 refine⟨zl5.2 ⟨?_,?_,h.idB,hp,Ne.symm hne,h.bt,⟨hs.2.2.2.2.2.1,hs.2.2.2.2.2.2.1⟩,?_,hi⟩,rfl⟩
 ·show 1≤kd;omega
 ·show kd≤5;omega
 ·show if kd=1 then ec=0∧el=0 else(1≤ec∧ec≤1099511627776)∧0≤el∧el≤1099511627776
  rw[if_neg (by omega)];exact⟨he,hl⟩
theorem zkb {n:zQ} {v:Int} (h:zy n) (hp:nodeB v=true) (hne:v≠n.id):POk n (jH n v):=by
 have hs:=zba h.seen v
 simp only[zdg]at hs
 exact⟨zl5.2 ⟨by simp[jH],by simp[jH],h.idB,hp,Ne.symm hne,h.bt,⟨hs.2.2.2.2.2.1,hs.2.2.2.2.2.2.1⟩,by simp[jH],by simp[jH]⟩,rfl⟩
theorem Zi {n:zQ} {p:Int} (h:zy n) (hp:hasP p n.hv=true):nodeB p=true∧p≠n.id∧(1≤(findH p n.hv).1.boot∧(findH p n.hv).1.boot≤1099511627776)∧(0≤(findH p n.hv).1.life∧(findH p n.hv).1.life≤1099511627776):=by
 obtain⟨h1,h2,h3⟩:=h.find hp
 have:=(z0.1 h1).1
 rw[zcw,h2]at this
 exact⟨this.2.1,Ne.symm this.2.2.1,⟨this.2.2.2.1,this.2.2.2.2.1⟩,⟨this.2.2.2.2.2.1,this.2.2.2.2.2.2.1⟩⟩
theorem zsD {w:Wk} {p:Int} (h:zy w.n) (hp:hasP p w.n.hv=true) (hs:zaK w):zaK (qP w p):=fun x hx=>by
 have k:=h.ask hp
 obtain⟨r1,r2,r3,r4⟩:=Zi h hp
 rcases List.mem_append.1 hx with hx|hx
 ·exact(hs x hx).same ⟨rfl,rfl,rfl⟩
 ·rw[List.mem_singleton]at hx;subst hx
  refine zjr k r1 r2 (by omega) r3 r4 ?_
  rw[if_pos (.inl rfl)]
  exact zhZ k (by rw[zpp h hp];exact hp)
theorem ziE: ∀ {l:List Int} {w:Wk},zy w.n→(∀p∈l,hasP p w.n.hv=true)→zaK w→zaK (yg w l)
 |[],w,_,_,h=>h
 |p::l,w,hk,hl,h=>by
  have hp:=hl p (List.mem_cons_self ..)
  have h1:=jY hk hp
  exact ziE (l:=l) (w:=qP w p) h1.k (fun q hq=>by rw[h1.has q];exact hl q (List.mem_cons_of_mem _ hq)) (zsD hk hp h)
theorem zyn {w v:Wk} (hp:v.ps=w.ps) (hs:v.n.id=w.n.id) (h:zaK w):zaK v:=fun x hx=>by
 rw[hp]at hx;exact⟨(h x hx).1,by rw[hs];exact(h x hx).2⟩
theorem zc4: ∀ {l:List It} {w:Wk} {b:Bool},(qU w b l).1.ps=w.ps∧(qU w b l).1.n.id=w.n.id
 |[],w,b=>⟨rfl,rfl⟩
 | x::l,w,b=>by
  rw[qU];split
  ·have:=zc4 (l:=l) (w:=jA ⟨w.n.chS (Qw w.n.ch x.c).1,w.ps,w.es⟩ x.c) (b:=true)
   exact⟨this.1,this.2⟩
  ·exact zc4
theorem zzx {w:Wk} {fr:Int} {x:It}:(Yp w fr x).ps=w.ps∧(Yp w fr x).n.id=w.n.id:=by
 unfold Yp;simp only;repeat' split
 all_goals exact⟨rfl,rfl⟩
theorem zoI {w:Wk} {kd fr:Int} {x:It}:(yZ w kd fr x).ps=w.ps∧(yZ w kd fr x).n.id=w.n.id:=by
 unfold yZ;repeat' split
 ·exact⟨rfl,rfl⟩
 ·exact⟨rfl,rfl⟩
 ·have:=zzx (w:=Q4 w (QG w.n.id (findH fr w.n.hv).1 x.c.nm (x.ve,x.wt,x.fl)).1) (fr:=fr) (x:=x)
  exact⟨this.1,this.2⟩
 ·exact⟨rfl,rfl⟩
theorem zfl: ∀ {l:List It} {w:Wk} {kd fr:Int},(yo w kd fr l).ps=w.ps∧(yo w kd fr l).n.id=w.n.id
 |[],w,_,_=>⟨rfl,rfl⟩
 |x::l,w,kd,fr=>by
  rw[yo]
  have h1:=zoI (w:=w) (kd:=kd) (fr:=fr) (x:=x)
  have h2:=zfl (l:=l) (w:=yZ w kd fr x) (kd:=kd) (fr:=fr)
  exact⟨h2.1.trans h1.1,h2.2.trans h1.2⟩
theorem zxo {w:Wk} {p:qO} (h:zy w.n) (hp:Jg w.n p) (hs:zaK w):zaK (ZL w p):=by
 obtain⟨k1,k2,k3,k4⟩:=Jk (kd:=p.kd) h hp.fr hp.ne hp.bt hp.lf
 have e0:(qf w p.kd p.fr p.bt p.lf).ps=w.ps:=by unfold qf;split<;>rfl
 have s1:=Yx (b:=false) k1 fun x hx=>y8 (hp.its x hx)
 have hh:hasP p.fr (qU (qf w p.kd p.fr p.bt p.lf) false p.its).1.n.hv=true:=by rw[s1.has];exact k2
 have s2:=JQ (kd:=p.kd) s1.k hh hp.its
 have hp3:hasP p.fr (yo (qU (qf w p.kd p.fr p.bt p.lf) false p.its).1 p.kd p.fr p.its).n.hv=true:=by rw[s2.has];exact hh
 have e1:=zc4 (l:=p.its) (w:=qf w p.kd p.fr p.bt p.lf) (b:=false)
 have e2:=zfl (l:=p.its) (w:=(qU (qf w p.kd p.fr p.bt p.lf) false p.its).1) (kd:=p.kd) (fr:=p.fr)
 have q3:zaK (yo (qU (qf w p.kd p.fr p.bt p.lf) false p.its).1 p.kd p.fr p.its):=zyn (e2.1.trans (e1.1.trans e0)) (e2.2.trans (e1.2.trans k3.id)) hs
 unfold ZL YA
 simp only
 have e: ∀w3:Wk,(if p.kd=3 then J1 w3 p.fr p.bt p.lf else w3).n=w3.n:=fun w3=>by split<;>rfl
 refine ziE (by rw[e];exact s2.k) (fun q hq=>yP.2 (List.mem_filter.1 hq).1) ?_
 split
 ·intro x hx
  rcases List.mem_append.1 hx with hx|hx
  ·exact q3 x hx
  ·rw[List.mem_singleton]at hx;subst hx
   obtain⟨r1,r2,r3,r4⟩:=Zi s2.k hp3
   refine zjr s2.k r1 r2 (by omega) hp.bt hp.lf ?_
   rw[if_pos (.inr rfl)]
   exact zhZ s2.k hp3
 ·exact q3
theorem Z1 (n:zQ) (es:List ZF):zaK ⟨n,[],es⟩:=fun x hx=>by cases hx
theorem zwO {n:zQ} (p:qO) (h:zy n):zaK (jp n p):=by
 unfold jp
 simp only
 split
 ·exact Z1 _ _
 ·rename_i hc
  simp only[Bool.or_eq_true,Bool.not_eq_true',decide_eq_true_eq,decide_eq_false_iff_not,not_or,Bool.not_eq_false,ne_eq,Decidable.not_not]at hc
  have hp:=Qc hc.1.1 hc.1.2
  repeat' split
  ·intro x hx
   rw[List.mem_singleton]at hx;subst hx
   exact zjr h hp.fr hp.ne (by omega) hp.bt hp.lf (by rw[if_neg (by omega)])
  ·unfold Q9
   repeat' split
   ·exact zxo (w:=⟨qW n p,[],[]⟩) (h.see hp) ⟨hp.fr,hp.ne,hp.bt,hp.lf,hp.its⟩ (Z1 _ _)
   ·exact Z1 _ _
   ·exact Z1 _ _
  ·exact Z1 _ _
theorem zob {n:zQ} {p:qO} {es:List ZF} (h:POk n p):zaK ⟨n,[p],es⟩:=fun x hx=>by rw[List.mem_singleton]at hx;subst hx;exact h
theorem zvr {n:zQ} (h:zy n):zaK (tickW n):=by
 have hw:=Qa h.want
 have hm:zy ((tickN n).tnS (yR n.want n.tn).2.1):=h.tickN.tnS hw.1
 unfold tickW
 simp only
 split
 ·exact Z1 _ _
 ·rename_i hv
  have hmem:=hw.2 (by simpa using hv)
  have hnd:=(zU.1 h.want).2.2.2.2.1 _ hmem
  split
  ·exact zob (zkb hm hnd.1 hnd.2)
  ·rename_i hf
   have hp:hasP (yR n.want n.tn).1 n.hv=true:=by simpa[hasP]using hf
   obtain⟨h1,h2,h3⟩:=h.find hp
   split
   ·rename_i ht
    rcases Zx h1 with⟨_,g1,g2,_⟩|g
    ·have hk:zy (((tickN n).tnS (yR n.want n.tn).2.1).hvS (qu n.hv (yO (findH (yR n.want n.tn).1 n.hv).1).1)):=hm.keep g1
     exact zsD (w:=⟨_,[],[]⟩) hk (Zh.2 (.inl (by rw[g2,h2]))) (Z1 _ _)
    ·rw[g]at ht;cases ht
   ·exact zob (zkb (hm.drop hnd.1 hnd.2) hnd.1 hnd.2)
theorem zxc {n:zQ} {v:Int} (h:zy n):zaK (jz n v).1:=by
 have hm:zy ((n.waS (ZI n.want n.tn v).1).tnS (ZI n.want n.tn v).2.1):=⟨h.bt,h.tk,Y2 h.want,h.seen,h.hv,h.ch⟩
 unfold jz
 simp only
 split
 ·exact Z1 _ _
 ·split
  ·rename_i hf
   have hp:hasP v n.hv=true:=hf
   obtain⟨r1,r2,r3,r4⟩:=Zi h hp
   exact fun x hx=>(zob (es:=[]) (zjr hm r1 r2 (by omega) r3 r4 (by rw[if_neg (by omega)])) x hx).same ⟨rfl,rfl,rfl⟩
  ·exact Z1 _ _
theorem zjM: ∀ {l:List Tt} {w:Wk} {nm:ByteArray},(madeL w nm l).ps=w.ps∧(madeL w nm l).n.id=w.n.id
 |[],w,_=>⟨rfl,rfl⟩
 |x::l,w,nm=>by
  rw[madeL];split
  ·have:=zjM (l:=l) (w:=jA w x.c) (nm:=nm);exact⟨this.1,this.2⟩
  ·exact zjM
theorem zpw {n:zQ} {nm:ByteArray} {r:List Tt×Int} (h:zy n) (hr:fitsT n.id r.1=true):zaK (ZG n nm r).1:=by
 unfold ZG
 split
 ·exact Z1 _ _
 ·have h1:zy (n.chS r.1):=h.chS hr
  have h2:=zan (w:=⟨n.chS r.1,[],[]⟩) (nm:=nm) (l:=r.1) h1
  have h3:=zjM (l:=r.1) (w:=⟨n.chS r.1,[],[]⟩) (nm:=nm)
  exact ziE h2.k (fun p hp=>yP.2 hp) (zyn h3.1 h3.2 (Z1 (n.chS r.1) []))
theorem zfC {p:Int}: ∀ {l:List Int},l.Nodup→p∈l→l.filter (fun q=>decide (q=p))=[p]
 |[],_,h=>by cases h
 | x::l,hn,h=>by
  have hn':=List.nodup_cons.1 hn
  rw[List.filter_cons]
  by_cases hx:x=p
  ·subst hx
   have:l.filter (fun q=>decide (q=x))=[]:=List.filter_eq_nil_iff.2 fun y hy=>by simp;rintro rfl;exact hn'.1 hy
   simp[this]
  ·have:=zfC hn'.2 (by rcases List.mem_cons.1 h with e|h;exact absurd e.symm hx;exact h)
   simp[hx,this]
theorem zmc {l:List Hf} (h:SrtH l):(qg l).Nodup:=by
 unfold qg
 rw[List.nodup_iff_pairwise_ne,List.pairwise_map]
 exact h.imp fun h=>by omega
theorem zxR {w:Wk} {a b:Bool} {fr:Int} (hs:SrtH w.n.hv) (hp:hasP fr w.n.hv=true):YA w a b fr=if a then yg w (qg w.n.hv)else if b then qP w fr else w:=by
 unfold YA
 cases a
 ·cases b
  ·simp only[Bool.or_self,Bool.false_and,Bool.or_false];rw[List.filter_eq_nil_iff.2 (by simp)];rfl
  ·simp only[Bool.false_or,Bool.true_and,Bool.false_eq_true,if_false,if_true]
   rw[zfC (zmc hs) (yP.1 hp)];rfl
 ·simp only[Bool.true_or,if_true];rw[List.filter_eq_self.2 (by simp)]
def QE (w:Wk):Prop:=(∀e∈w.es,e.kd≠6)∧∀p∈w.ps,p.kd≠2
theorem zCh {w:Wk} {n:zQ} {ps:List qO} {es:List ZF} (h:QE w) (h1: ∀e∈es,e.kd≠6) (h2: ∀p∈ps,p.kd≠2):QE ⟨n,w.ps++ps,w.es++es⟩:=
 ⟨fun e he=>by rcases List.mem_append.1 he with he|he;exact h.1 e he;exact h1 e he,fun e he=>by rcases List.mem_append.1 he with he|he;exact h.2 e he;exact h2 e he⟩
theorem ziQ {w:Wk} {n:zQ} {e:ZF} (h:QE w) (h1:e.kd≠6):QE ⟨n,w.ps,w.es++[e]⟩:=
 ⟨fun x hx=>by rcases List.mem_append.1 hx with hx|hx;exact h.1 x hx;rw[List.mem_singleton]at hx;subst hx;exact h1,h.2⟩
theorem zCk {peer:Int} {l:List It}: ∀e∈l.flatMap (zbc peer),e.kd=4:=fun e he=>by
 obtain⟨x,_,hx⟩:=List.mem_flatMap.1 he
 unfold zbc at hx
 split at hx
 ·rw[List.mem_singleton]at hx;subst hx;rfl
 ·cases hx
theorem zCF {w:Wk} {p:Int} (h:QE w):QE (qP w p):=by
 unfold qP
 exact zCh h (fun e he=>by rw[zCk e he];omega) fun x hx=>by rw[List.mem_singleton]at hx;subst hx;simp[jS]
theorem zzl: ∀ {l:List Int} {w:Wk},QE w→QE (yg w l)
 |[],_,h=>h
 | _::l,w,h=>zzl (l:=l) (zCF h)
theorem zxz: ∀ {l:List It} {w:Wk} {b:Bool},QE w→QE (qU w b l).1
 |[],w,b,h=>h
 |x::l,w,b,h=>by
  rw[qU];split
  ·exact zxz (w:=jA ⟨w.n.chS (Qw w.n.ch x.c).1,w.ps,w.es⟩ x.c) (ziQ (w:=⟨w.n.chS (Qw w.n.ch x.c).1,w.ps,w.es⟩) h (by simp))
  ·exact zxz h
theorem zCu {w:Wk} {fr:Int} {x:It} (h:QE w):QE (Yp w fr x):=by
 unfold Yp;simp only;repeat' split
 ·exact ziQ h (by simp)
 ·exact ziQ h (by simp)
 ·exact ziQ (w:=Q4 w _) h (by simp)
 ·exact h
theorem zB0 {w:Wk} {kd fr:Int} {x:It} (h:QE w):QE (yZ w kd fr x):=by
 unfold yZ;repeat' split
 ·exact h
 ·exact h
 ·exact zCu (w:=Q4 w _) h
 ·exact h
theorem zAo: ∀ {l:List It} {w:Wk} {kd fr:Int},QE w→QE (yo w kd fr l)
 |[],_,_,_,h=>h
 |x::l,w,kd,fr,h=>zAo (l:=l) (zB0 h)
theorem zBW {w:Wk} {p:qO} (h:QE w):QE (ZL w p):=by
 unfold ZL YA
 simp only
 have h1:QE (qf w p.kd p.fr p.bt p.lf):=by
  unfold qf;split
  ·exact ziQ h (by simp)
  ·exact h
 have h2:QE (yo (qU (qf w p.kd p.fr p.bt p.lf) false p.its).1 p.kd p.fr p.its):=zAo (zxz h1)
 refine zzl ?_
 split
 ·refine⟨h2.1,fun x hx=>?_⟩
  rcases List.mem_append.1 hx with hx|hx
  ·exact h2.2 x hx
  ·rw[List.mem_singleton]at hx;subst hx;simp[jS]
 ·exact h2
theorem zCD {n:zQ} {p:qO} (h:((∃e,(jp n p).es=[e]∧e.kd=6)∧p.kd≠5)∨∃q,(jp n p).ps=[q]∧q.kd=2):
  (jp n p).n=n∧∀q,(jp n p).ps=[q]→q.kd=2→(jp n p).es=[]∧q.ec=p.bt∧q.el=p.lf∧q.to=p.fr:=by
 unfold jp at h ⊢
 simp only at h ⊢
 split
 ·exact⟨rfl,fun q hq _=>by simp[zem]at hq⟩
 ·rename_i hc
  rw[if_neg hc]at h
  split
  ·exact⟨rfl,fun q hq _=>by simp only[List.cons.injEq,and_true]at hq;subst hq;exact⟨rfl,rfl,rfl,rfl⟩⟩
  ·rename_i h3
   rw[if_neg h3]at h
   split
   ·rename_i h2
    rw[if_pos h2]at h
    exfalso
    unfold Q9 at h
    split at h
    ·have hq:QE (ZL ⟨qW n p,[],[]⟩ p):=zBW ⟨fun e he=>(by cases he),fun e he=>(by cases he)⟩
     rcases h with⟨⟨e,he,hk⟩,_⟩|⟨q,hq2,hk⟩
     ·exact hq.1 e (by rw[he];simp) hk
     ·exact hq.2 q (by rw[hq2];simp) hk
    ·rename_i h5
     rcases h with⟨_,h5'⟩|⟨q,hq2,_⟩
     ·exact h5 h5'
     ·split at hq2<;>simp[zbh,zem]at hq2
   ·exact⟨rfl,fun q hq _=>by simp[zem]at hq⟩
def eqN (a b:zQ):Bool:=a.id==b.id&&a.bt==b.bt&&a.tk==b.tk&&a.tn==b.tn&&zgO a.want b.want&&zgM a.seen b.seen&&zgL a.hv b.hv&&zgK a.ch b.ch
theorem zhM: ∀l:List Int,zgO l l=true
 |[]=>rfl
 |x::l=>by rw[zdB,zhM l];simp
theorem zh9: ∀l:List Sn,zgM l l=true
 |[]=>rfl
 |x::l=>by rw[zdo,zh9 l];simp[zwR]
theorem zhG: ∀l:List Ln,ziK l l=true
 |[]=>rfl
 |x::l=>by rw[zdl,zhG l];simp[zvV,zaO]
theorem zhI: ∀l:List Hf,zgL l l=true
 |[]=>rfl
 |x::l=>by rw[zdy,zhI l];simp[zog,zhG]
theorem zh4: ∀l:List Tt,zgK l l=true
 |[]=>rfl
 |x::l=>by rw[zdE,zh4 l];simp[zvC,zaO]
theorem zjV (a:zQ):eqN a a=true:=by simp[eqN,zhM,zh9,zhI,zh4]
def zwH (x y:It):Bool:=x.c.nm==y.c.nm&&(x.c.ep==y.c.ep&&(x.c.ma==y.c.ma&&(x.c.al==y.c.al&&(x.c.kd==y.c.kd&&(x.c.sc==y.c.sc&&(x.ve==y.ve&&(x.wt==y.wt&&(x.fl==y.fl&&(x.hr==y.hr&&(x.rs==y.rs&&(x.mn.has==y.mn.has&&(x.mn.val==y.mn.val&&(x.mn.org==y.mn.org&&(x.mn.age==y.mn.age&&(x.mx.has==y.mx.has&&(x.mx.val==y.mx.val&&(x.mx.org==y.mx.org&&x.mx.age==y.mx.age)))))))))))))))))
def ziJ:List It→List It→Bool
 |[],[]=>true
 |x::l,y::m=>zwH x y&&ziJ l m
 | _,_=>false
theorem ztI:ziJ [] []=true:=rfl
theorem zdd (x y:It) (l m:List It):ziJ (x::l) (y::m)=(zwH x y&&ziJ l m):=rfl
theorem zlD: ∀(l m:List It),l.length≠m.length→ziJ l m=false
 |[],[],h=>absurd rfl h
 |[],_::_,_=>rfl
 | _::_,[],_=>rfl
 |x::l,y::m,h=>by rw[zdd,zlD l m (by simpa using h)];simp
theorem zh6: ∀l:List It,ziJ l l=true
 |[]=>rfl
 |x::l=>by rw[zdd,zh6 l];simp[zwH,zaO]
def eqP (a b:qO):Bool:=a.kd==b.kd&&a.fr==b.fr&&a.to==b.to&&a.bt==b.bt&&a.lf==b.lf&&a.ec==b.ec&&a.el==b.el&&ziJ a.its b.its
theorem ztJ (a:qO):eqP a a=true:=by simp[eqP,zh6]
def zgE:List qO→List qO→Bool
 |[],[]=>true
 |x::l,y::m=>eqP x y&&zgE l m
 | _,_=>false
theorem zty:zgE [] []=true:=rfl
theorem zdP (x y:qO) (l m:List qO):zgE (x::l) (y::m)=(eqP x y&&zgE l m):=rfl
theorem zkO: ∀(l m:List qO),l.length≠m.length→zgE l m=false
 |[],[],h=>absurd rfl h
 |[],_::_,_=>rfl
 | _::_,[],_=>rfl
 |x::l,y::m,h=>by rw[zdP,zkO l m (by simpa using h)];simp
theorem zh0: ∀l:List qO,zgE l l=true
 |[]=>rfl
 |x::l=>by rw[zdP,zh0 l];simp[ztJ]
def eqE (x y:ZF):Bool:=x.kd==y.kd&&(x.pr==y.pr&&(x.nm==y.nm&&x.num==y.num))
def zgP:List ZF→List ZF→Bool
 |[],[]=>true
 |x::l,y::m=>eqE x y&&zgP l m
 | _,_=>false
theorem zsA:zgP [] []=true:=rfl
theorem zcX (x y:ZF) (l m:List ZF):zgP (x::l) (y::m)=(eqE x y&&zgP l m):=rfl
theorem zmt: ∀(l m:List ZF),l.length≠m.length→zgP l m=false
 |[],[],h=>absurd rfl h
 |[],_::_,_=>rfl
 | _::_,[],_=>rfl
 |x::l,y::m,h=>by rw[zcX,zmt l m (by simpa using h)];simp
theorem zhS: ∀l:List ZF,zgP l l=true
 |[]=>rfl
 |x::l=>by rw[zcX,zhS l];simp[eqE,zaO]
structure Cal where
 kd:Int
 v:Int
 nm:ByteArray
 wh:Int
 x:Int
 p:qO
def Ye (n:zQ) (c:Cal):Wk×Int:=
 if c.kd=1 then zd0 n c.v else if c.kd=2 then jz n c.v else if c.kd=3 then zi3 n c.nm c.wh c.x else if c.kd=4 then zkj n c.nm
 else if c.kd=5 then(⟨(zer n c.nm c.x).1,[],[]⟩,(zer n c.nm c.x).2)else if c.kd=6 then(tickW n,0)else if c.kd=7 then(jp n c.p,0)else(⟨n,[],[]⟩,0)
theorem zvz (n:zQ) (v:Int):(jz n v).1.n.id=n.id:=by
 unfold jz;simp only
 split
 ·rfl
 ·split<;>rfl
theorem zsm {n:zQ} (c:Cal) (h:zaj n=true):zaj (Ye n c).1.n=true∧zaK (Ye n c).1∧(Ye n c).1.n.id=n.id:=by
 obtain⟨hk,hx⟩:=jV.1 h
 unfold Ye
 split
 ·exact⟨jV.2 ⟨zsU hk,zvB hx⟩,Z1 _ _,rfl⟩
 split
 ·exact⟨jV.2 ⟨ztv hk,zxX hk hx⟩,zxc hk,zvz _ _⟩
 split
 ·exact⟨jV.2 ⟨(zpA hk).1,zAd hk hx⟩,zpw hk (jj hk.ch),(zpA hk).2.id⟩
 split
 ·exact⟨jV.2 ⟨(zpC hk).1,zy7 hk hx⟩,zpw hk (jl hk.ch),(zpC hk).2.id⟩
 split
 ·exact⟨jV.2 ⟨(zt9 hk).1,zvn hx⟩,Z1 _ _,rfl⟩
 split
 ·exact⟨jV.2 ⟨(zl3 hk).1,zxg hk hx⟩,zvr hk,(zl3 hk).2.id⟩
 split
 ·exact⟨jV.2 ⟨(zk3 c.p hk).1,zwW c.p hk hx⟩,zwO c.p hk,(zk3 c.p hk).2.id⟩
 ·exact⟨h,Z1 _ _,rfl⟩
theorem zyd (a:Int):wr (wr a)=wr a:=by simp only[wr,IntKind.wrap_i64];omega
def zm9 (q:Int→Bool):List (Int×Int)→Int
 |[]=>0
 |x::l=>(if q x.1 then x.2 else 0)+zm9 q l
theorem zDg (q:Int→Bool): ∀l m:List (Int×Int),zm9 q (l++m)=zm9 q l+zm9 q m
 |[],m=>by simp[zm9]
 |x::l,m=>by rw[List.cons_append,zm9,zm9,zDg q l m];omega
theorem zga (q:Int→Bool): ∀(l:List (Int×Int)) (s:Int),wr s=s→zdK (-1) q l s=wr (s - zm9 q l)
 |[],s,h=>by simp[zfr,zm9,h]
 | x::l,s,h=>by
  rw[zdN,zm9]
  split
  ·rw[zga q l _ (zyd _)]
   simp only[wr,IntKind.wrap_i64];omega
  ·rw[zga q l _ h];simp
def zrx (id:Int) (nm:ByteArray) (p:Int) (h:Hf):Int:=outR (findL nm h.lines).1 (findL nm h.lines).2.1 (findL nm h.lines).2.2 id p
theorem zDJ (a b:Int):outR 0 0 0 a b=0:=by unfold outR;(repeat' split)<;>simp
theorem zCB {id p:Int} {nm:ByteArray}: ∀ {l:List Ln},(∀x∈l,(x.nm.toList==nm.toList)=false)→zbe id nm p l=[]
 |[],_=>rfl
 |x::l,h=>by
  rw[zbe,if_neg (by rw[h x (List.mem_cons_self ..)];simp)]
  exact zCB fun y hy=>h y (List.mem_cons_of_mem _ hy)
theorem zCN {id p:Int} {nm:ByteArray} {q:Int→Bool}: ∀ {l:List Ln},Y8 l→zm9 q (zbe id nm p l)=if q p then outR (findL nm l).1 (findL nm l).2.1 (findL nm l).2.2 id p else 0
 |[],_=>by simp[zbe,zm9,findL,zDJ]
 | x::l,hs=>by
  have hs':=List.pairwise_cons.1 hs
  rw[zbe,findL]
  split
  ·rename_i hq
   have e:x.nm.toList=nm.toList:=by simpa using hq
   rw[zm9,zCB fun y hy=>by have:=hs'.1 y hy;rw[e]at this;exact zfV this]
   simp[zm9,zlq]
  ·exact zCN hs'.2
theorem zx1 {id:Int} {nm:ByteArray} {q:Int→Bool}: ∀ {l:List Hf},(∀h∈l,Y8 h.lines)→zm9 q (ZH id nm l)=(l.map fun h=>if q h.peer then zrx id nm h.peer h else 0).sum
 |[],_=>rfl
 |h::l,hs=>by
  rw[ZH,zDg,zCN (hs h (List.mem_cons_self ..)),zx1 fun x hx=>hs x (List.mem_cons_of_mem _ hx)]
  simp[zrx]
theorem zC1 {f g:Nat→Int} {a:Nat}: ∀ {n:Nat},a<n→(∀k,k≠a→f k=g k)→((List.range n).map f).sum=((List.range n).map g).sum+f a - g a
 |0,h,_=>by omega
 | n+1,h,he=>by
  rw[List.range_succ,List.map_append,List.map_append,List.sum_append,List.sum_append]
  simp only[List.map_cons,List.map_nil,List.sum_cons,List.sum_nil]
  by_cases hn:a=n
  ·subst hn
   have:(List.range a).map f=(List.range a).map g:=List.map_congr_left fun k hk=>he k (by have:=List.mem_range.1 hk;omega)
   rw[this];omega
  ·have:=zC1 (f:=f) (g:=g) (a:=a) (n:=n) (by omega) he
   rw[this,he n (fun e=>hn e.symm)];omega
def zqp (id:Int) (nm:ByteArray) (q:Int→Bool) (l:List Hf):Int:=((List.range 16).map fun k=>if q (k:Nat)then zrx id nm (k:Nat) (findH (k:Nat) l).1 else 0).sum
theorem zDK (id:Int) (nm:ByteArray) (p:Int):zrx id nm p zbr=0:=by simp[zrx,findL,zDJ]
theorem zpY {id:Int} {nm:ByteArray} {q:Int→Bool}: ∀ {l:List Hf},SrtH l→RngH l→(l.map fun h=>if q h.peer then zrx id nm h.peer h else 0).sum=zqp id nm q l
 | [],_,_=>by
  unfold zqp
  have:(List.range 16).map (fun k=>if q ((k:Nat):Int)then zrx id nm (k:Nat) (findH (k:Nat) []).1 else 0)=(List.range 16).map fun _=>0:=List.map_congr_left fun k _=>by
   have:(findH (k:Nat) []).1=zbr:=rfl
   rw[this,zDK];simp
  rw[this];rfl
 | h::l,hs,hr=>by
  have hs':=List.pairwise_cons.1 hs
  have hrh:=hr h (List.mem_cons_self ..)
  have ih:=zpY (id:=id) (nm:=nm) (q:=q) (l:=l) hs'.2 fun x hx=>hr x (List.mem_cons_of_mem _ hx)
  obtain⟨a,ha⟩: ∃a:Nat,h.peer=a:=⟨h.peer.toNat,by omega⟩
  have hnone:findH h.peer l=(zbr,false):=zbQ fun x hx=>by have:=hs'.1 x hx;omega
  have key:=zC1 (n:=16) (a:=a) (f:=fun k=>if q ((k:Nat):Int)then zrx id nm (k:Nat) (findH (k:Nat) (h::l)).1 else 0) (g:=fun k=>if q ((k:Nat):Int)then zrx id nm (k:Nat) (findH (k:Nat) l).1 else 0) (by omega) fun k hk=>by
   have e:findH ((k:Nat):Int) (h::l)=findH (k:Nat) l:=by rw[Yo,if_neg (by rw[ha];omega)]
   rw[e]
  unfold zqp
  rw[key]
  rw[←ha,Yo,if_pos rfl,hnone]
  simp only[zDK]
  rw[List.map_cons,List.sum_cons,ih]
  unfold zqp
  simp only[ite_self];omega
theorem zDe {a:Int} {l:List Hf} (h:fitsH a l=true): ∀x∈l,Y8 x.lines:=fun x hx=>(z0.1 ((q8.1 h).2.1 x hx)).2.2.1
theorem zC7 {id inp fr:Int} {hv:List Hf} {nm:ByteArray} (h:fitsH id hv=true) (hi:wr inp=inp):Yt id inp hv nm fr=zeu (wr (inp - zqp id nm (fun n=>decide (n≠fr)) hv)):=by
 unfold Yt;rw[zga _ _ _ hi,zx1 (zDe h),zpY (q:=fun n=>decide (n≠fr)) (q8.1 h).1 (zii h)]
theorem zEK {id inp:Int} {hv:List Hf} {nm:ByteArray} (h:fitsH id hv=true) (hi:wr inp=inp):zxY id inp hv nm=zeu (wr (inp - zqp id nm (fun _=>true) hv)):=by
 unfold zxY;rw[zga _ _ _ hi,zx1 (zDe h),zpY (q:=fun _=>true) (q8.1 h).1 (zii h)]
theorem zEj {id fr:Int} {nm:ByteArray} {hv:List Hf} (hf:0≤fr∧fr<16):zqp id nm (fun _=>true) hv=zqp id nm (fun n=>decide (n≠fr)) hv+zrx id nm fr (findH fr hv).1:=by
 obtain⟨a,ha⟩: ∃a:Nat,fr=a:=⟨fr.toNat,by omega⟩
 subst ha
 have key:=zC1 (n:=16) (a:=a) (f:=fun k=>if(fun _=>true:Int→Bool) ((k:Nat):Int)then zrx id nm (k:Nat) (findH (k:Nat) hv).1 else 0) (g:=fun k=>if(fun n:Int=>decide (n≠(a:Int))) ((k:Nat):Int)then zrx id nm (k:Nat) (findH (k:Nat) hv).1 else 0) (by omega) fun k hk=>by
  have: ¬(k:Int)=a:=by omega
  simp[this]
 unfold zqp
 rw[key]
 simp
theorem zDW {id fr:Int} {nm:ByteArray} {hv:List Hf} (hf: ¬(0≤fr∧fr<16)):zqp id nm (fun _=>true) hv=zqp id nm (fun n=>decide (n≠fr)) hv:=by
 unfold zqp
 congr 1
 refine List.map_congr_left fun k hk=>?_
 have:=List.mem_range.1 hk
 have: ¬(k:Int)=fr:=by omega
 simp[this]
theorem zD1 {id:Int} {nm:ByteArray} {q:Int→Bool} {l m:List Hf} (h: ∀p,q p=true→findL nm (findH p l).1.lines=findL nm (findH p m).1.lines):zqp id nm q l=zqp id nm q m:=by
 unfold zqp
 congr 1
 refine List.map_congr_left fun k hk=>?_
 cases hq:q (k:Nat)
 ·simp
 ·simp only[if_true,zrx,h _ hq]
theorem zru {nm:ByteArray} {x:Ln}: ∀ {l:List Ln},Y8 l→x∈l→x.nm=nm→findL nm l=zlq x
 |[],_,h,_=>by cases h
 | y::l,hs,h,hn=>by
  have hs':=List.pairwise_cons.1 hs
  rw[findL]
  rcases List.mem_cons.1 h with rfl|h
  ·rw[if_pos (by rw[hn];simp)]
  ·have:=hs'.1 x h
   rw[if_neg (by rw[←hn,ztq this];simp)]
   exact zru hs'.2 h hn
theorem zD0 {l:List Ln} {c:ByteArray} {g:jQ} {x:Ln} (hs:Y8 l) (hx:x∈l) (hn:x.nm≠c):x∈jB l c g:=by
 unfold jB
 split
 ·exact hx
 ·rw[←List.take_append_drop (ltL c l) l]at hx
  rcases List.mem_append.1 hx with hx|hx
  ·exact List.mem_append_left _ (List.mem_append_left _ hx)
  ·refine List.mem_append_right _ ?_
   cases hi:qY c l
   ·simpa using hx
   ·obtain⟨hk,he⟩:=zy6 hi
    rw[List.drop_eq_getElem_cons hk]at hx
    rcases List.mem_cons.1 hx with rfl|hx
    ·exact absurd (zf3 he) hn
    ·simpa using hx
theorem zej {l:List Ln} {c nm:ByteArray} {g:jQ} (hs:Y8 l) (hn:nm≠c):findL nm (jB l c g)=findL nm l:=by
 rcases zhf (nm:=nm) (l:=l)with h|⟨x,hx,h1,h2⟩
 ·rcases zhf (nm:=nm) (l:=jB l c g)with h'|⟨y,hy,h1,h2⟩
  ·rw[h,h']
  ·rcases zjl hy with hy|⟨rfl,_⟩
   ·rw[h2,←zru hs hy h1]
   ·exact absurd h1.symm hn
 ·rw[h2];exact zru (zwS hs) (zD0 hs hx (by rw[h1];exact hn)) h1
theorem zmx {l:List Ln} {c:ByteArray} {g:jQ} (hs:Y8 l) (hz:ZK g=false) (hr:qY c l=true∨l.length<8):findL c (jB l c g)=g:=by
 have hm:(⟨c,g.1,g.2.1,g.2.2⟩:Ln)∈jB l c g:=by
  unfold jB
  rw[if_neg (by rcases hr with hr|hr;simp[hr];simp;omega)]
  refine List.mem_append_left _ (List.mem_append_right _ ?_)
  rw[hz];simp
 rw[zru (zwS hs) hm rfl];rfl
theorem ziP: ∀ {m:List Ch} {l:List Ln},Y8 l→Qb m→(∀x∈l,∃c∈m,c.nm=x.nm)→l.length≤m.length
 |[],[],_,_,_=>Nat.le_refl _
 |[],x::l,_,_,h=>by obtain⟨c,hc,_⟩:=h x (List.mem_cons_self ..);cases hc
 |c::m,[],_,_,_=>Nat.zero_le _
 | c ::m,x::l,hl,hm,h=>by
  have hl':=List.pairwise_cons.1 hl
  have hm':=List.pairwise_cons.1 hm
  by_cases e:x.nm=c.nm
  ·have:l.length≤m.length:=ziP hl'.2 hm'.2 fun y hy=>by
    obtain⟨d,hd,hn⟩:=h y (List.mem_cons_of_mem _ hy)
    rcases List.mem_cons.1 hd with rfl|hd
    ·have:=hl'.1 y hy;rw[e,hn,y4]at this;cases this
    ·exact⟨d,hd,hn⟩
   simp;omega
  ·have:(x::l).length≤m.length:=ziP hl hm'.2 fun y hy=>by
    obtain⟨d,hd,hn⟩:=h y hy
    rcases List.mem_cons.1 hd with rfl|hd
    ·exfalso
     obtain⟨dx,hdx,hnx⟩:=h x (List.mem_cons_self ..)
     rcases List.mem_cons.1 hdx with rfl|hdx
     ·exact e hnx.symm
     ·have h1:=hm'.1 dx hdx
      rcases List.mem_cons.1 hy with rfl|hy
      ·exact e hn.symm
      ·have h2:=hl'.1 y hy
       rw[hnx,hn]at h1
       rw[zoO h1]at h2;cases h2
    ·exact⟨d,hd,hn⟩
   simp at this ⊢;omega
theorem room {n:zQ} {h:Hf} {nm:ByteArray} (hk:zy n) (hx:XH n.want n.seen n.ch h) (hf:qQ n.id h=true) (ho:OkL n.ch nm):qY nm h.lines=true∨h.lines.length<8:=by
 by_cases hi: ∃x∈h.lines,x.nm=nm
 ·left
  obtain⟨x,hxm,e⟩:=hi
  have hs:=(z0.1 hf).2.2.1
  cases hb:qY nm h.lines
  ·exfalso
   have key: ∀ {l:List Ln},Y8 l→x∈l→qY nm l=true:=by
    intro l
    induction l with
    |nil=>intro _ h;cases h
    | cons y l ih=>
     intro hs hm
     have hs':=List.pairwise_cons.1 hs
     have ei:qY nm (y::l)=if Op.bytesLess y.nm.toList nm.toList then qY nm l else(y.nm.toList==nm.toList):=by
      unfold qY;rw[yw]
      cases Op.bytesLess y.nm.toList nm.toList
      ·rfl
      ·simp only[if_true,Nat.add_comm 1,List.drop_succ_cons]
     rw[ei]
     rcases List.mem_cons.1 hm with rfl|hm
     ·rw[e,y4];simp
     ·have:=hs'.1 x hm;rw[e]at this
      rw[this];exact ih hs'.2 hm
   rw[key hs hxm]at hb;cases hb
  ·rfl
 ·right
  have hs:=(z0.1 hf).2.2.1
  obtain⟨g1,g2,g3,g4,g5,g6⟩:=zH.1 hk.ch
  obtain⟨c,hc,e,_⟩:=ho
  have hr: ∀x∈jB (h.lines.take 7) nm (1,1,1),∃c∈recT n.ch,c.nm=x.nm:=fun x hm=>by
   rcases zjl hm with hm|⟨rfl,_⟩
   ·obtain⟨c,hc,e,_⟩:=hx.2.2 x (List.mem_of_mem_take hm);exact⟨c,hc,e⟩
   ·exact⟨c,hc,e⟩
  rcases Nat.lt_or_ge h.lines.length 8 with hl|hl
  ·exact hl
  ·exfalso
   have h1: ∀x∈h.lines,∃c∈(recT n.ch).filter (fun c=>decide (c.nm≠nm)),c.nm=x.nm:=fun x hm=>by
    obtain⟨d,hd,e,_⟩:=hx.2.2 x hm
    exact⟨d,List.mem_filter.2 ⟨hd,by simp;rw[e];exact fun e=>hi ⟨x,hm,e⟩⟩,e⟩
   have h2:=ziP hs (g4.sublist (List.filter_sublist ..)) h1
   have h3:((recT n.ch).filter (fun c=>decide (c.nm≠nm))).length<(recT n.ch).length:=by
    refine List.length_filter_lt_length_iff_exists.2 ⟨c,hc,by simp[e]⟩
   have h4:(recT n.ch).length=n.ch.length:=List.length_map _
   omega
theorem zhQ {q:Int} {l:List Hf} {h:Hf} (hs:SrtH l):findH q (qu l h)=if q=h.peer then(h,true)else findH q l:=by
 split
 ·rename_i e;rw[e];exact zg2 hs
 ·rename_i e;exact zAr hs e
theorem ze3 {n:ByteArray}: ∀ {l:List Tt},(∀x∈l,Jr n x=false)→findT n l=(zwl,false)
 |[],_=>rfl
 |x::l,h=>by
  rw[findT,if_neg (by rw[h x (List.mem_cons_self ..)];simp)]
  exact ze3 fun y hy=>h y (List.mem_cons_of_mem _ hy)
theorem zeg {n:ByteArray}: ∀ {l:List Tt},(findT n l).2=false→∀x∈l,Jr n x=false
 |[],_,x,h=>by cases h
 | y::l,h,x,hx=>by
  rw[findT]at h
  split at h
  ·cases h
  ·rename_i hy
   rcases List.mem_cons.1 hx with rfl|hx
   ·simpa using hy
   ·exact zeg h x hx
theorem zD4 {nm:ByteArray} {l:List Tt} {c:Ch} (hs:Qb (recT l)) (hn:nm≠c.nm):findT nm (JM l (jX false (recT l) c))=findT nm l:=by
 have hr:Qb (recT (JM l (jX false (recT l) c))):=by rw[zcA];exact ze2 hs
 rcases hf:findT nm l with⟨s,b⟩
 cases b
 ·have h0:=zeg (l:=l) (n:=nm) (by rw[hf])
  have:(s,false)=(zwl,false):=by rw[←hf];exact ze3 h0
  rw[this]
  refine ze3 fun y hy=>?_
  cases hh:Jr nm y
  ·rfl
  ·obtain⟨e1,e2⟩:=QK hh
   have key:y.c∈recT l:=by
    rcases zkK hy with⟨_,hm⟩|⟨hm,_⟩
    ·rcases YZ hm with e|⟨hm,_⟩
     ·exact absurd (by rw[←e,e1]) hn
     ·exact hm
    ·exact List.mem_map.2 ⟨y,hm,rfl⟩
   obtain⟨x,hx,e⟩:=List.mem_map.1 key
   have:=h0 x hx
   simp only[Jr]at this hh
   rw[e]at this
   rw[this]at hh;cases hh
 ·obtain⟨hm,hh⟩:=Q3 hf
  refine zdq hr ?_ hh
  have hc:s.c∈jX false (recT l) c:=zfY (List.mem_map.2 ⟨s,hm,rfl⟩) (by rw[(QK hh).1];exact hn)
  exact List.mem_map.2 ⟨s.c,hc,(zzZ hs hm _).1⟩
theorem zEs {nm:ByteArray} {l:List Tt} {c:Ch} (hs:Qb (recT l)) (h:(Qw l c).2=true) (hn:nm≠c.nm):findT nm (Qw l c).1=findT nm l:=by
 have e1:=zFE h
 have e2:(yx (recT l) c).1=jX false (recT l) c:=by have:=zwu h;rw[e1,zcA]at this;exact this
 rw[e1,e2];exact zD4 hs hn
theorem zCx {nm n:ByteArray} {f:Tt→Tt} (hf: ∀x,(f x).c=x.c∧(f x).inp=x.inp): ∀(l:List Tt),(findT nm (zcB n f l)).2=(findT nm l).2∧(findT nm (zcB n f l)).1.c=(findT nm l).1.c∧(findT nm (zcB n f l)).1.inp=(findT nm l).1.inp
 |[]=>⟨rfl,rfl,rfl⟩
 | x::l=>by
  have hh:Jr nm (f x)=Jr nm x:=by simp only[Jr,(hf x).1]
  rw[zcB]
  split
  ·rw[findT,findT,hh]
   split
   ·exact⟨rfl,(hf x).1,(hf x).2⟩
   ·exact⟨rfl,rfl,rfl⟩
  ·rw[findT,findT]
   split
   ·exact⟨rfl,rfl,rfl⟩
   ·exact zCx hf l
structure Mv (nm:ByteArray) (fr:Int) (n0:zQ) (w:Wk):Prop where
 k:zy w.n
 x:FitX w.n
 id:w.n.id=n0.id
 has: ∀q,hasP q n0.hv=true→hasP q w.n.hv=true
 reg: ∀q,q≠fr→findL nm (findH q w.n.hv).1.lines=findL nm (findH q n0.hv).1.lines
 fnd:(findT nm w.n.ch).2=(findT nm n0.ch).2
 fc:(findT nm w.n.ch).1.c=(findT nm n0.ch).1.c
 fi:(findT nm w.n.ch).1.inp=(findT nm n0.ch).1.inp
def mvd (nm:ByteArray):List ZF→Int
 |[]=>0
 |e::l=>(if e.kd=3∧e.nm=nm then e.num else 0)+mvd nm l
theorem zAm (nm:ByteArray): ∀l m:List ZF,mvd nm (l++m)=mvd nm l+mvd nm m
 |[],m=>by simp[mvd]
 |x::l,m=>by rw[List.cons_append,mvd,mvd,zAm nm l m];omega
theorem zie {nm:ByteArray}: ∀ {l:List ZF},(∀e∈l,¬(e.kd=3∧e.nm=nm))→mvd nm l=0
 |[],_=>rfl
 |x::l,h=>by rw[mvd,if_neg (h x (List.mem_cons_self ..)),zie fun y hy=>h y (List.mem_cons_of_mem _ hy)];rfl
structure Bo (nm:ByteArray) (fr:Int) (w:Wk):Prop where
 all: ∀e∈w.es,e.kd=3→e.nm=nm→e.num≠0∧e.pr=fr
 one:mvd nm w.es=0∨(flowB (mvd nm w.es)=true∧(findL nm (findH fr w.n.hv).1.lines).2.1=w.n.id)
def zue (nm:ByteArray) (w:Wk):Prop:=∃A e B,w.es=A++e::B∧e.kd=5∧e.nm=nm∧∀a∈A,a.kd≠3
theorem zBt {nm:ByteArray} {fr:Int} {w:Wk} {n:zQ} {ps:List qO} {es:List ZF} (h:Bo nm fr w) (he: ∀e∈es,¬(e.kd=3∧e.nm=nm)) (hi:n.id=w.n.id) (hr:findL nm (findH fr n.hv).1.lines=findL nm (findH fr w.n.hv).1.lines):Bo nm fr ⟨n,ps,w.es++es⟩:=by
 refine⟨fun e hm h3 hn=>?_,?_⟩
 ·rcases List.mem_append.1 hm with hm|hm
  ·exact h.all e hm h3 hn
  ·exact absurd ⟨h3,hn⟩ (he e hm)
 ·show mvd nm (w.es++es)=0∨_
  rw[zAm,zie he,Int.add_zero,hr,hi];exact h.one
theorem zFc {nm:ByteArray} {fr:Int} {w:Wk} {n:zQ} {ps:List qO} (h:Bo nm fr w) (hi:n.id=w.n.id) (hr:findL nm (findH fr n.hv).1.lines=findL nm (findH fr w.n.hv).1.lines):Bo nm fr ⟨n,ps,w.es⟩:=by
 have:=zBt (es:=[]) (ps:=ps) h (by simp) hi hr
 simpa using this
theorem zmz {nm:ByteArray} {w:Wk} {n:zQ} {ps:List qO} {es:List ZF} (h:zue nm w):zue nm ⟨n,ps,w.es++es⟩:=by
 obtain⟨A,e,B,he,h1⟩:=h;exact⟨A,e,B++es,by simp[he],h1⟩
theorem zCZ {nm:ByteArray} {fr:Int} {n0:zQ} {w:Wk} {h:Hf} (hm:Mv nm fr n0 w) (hf:qQ w.n.id h=true) (hx:XH w.n.want w.n.seen w.n.ch h) (hp:h.peer=fr∨findL nm h.lines=findL nm (findH h.peer w.n.hv).1.lines):Mv nm fr n0 (Q4 w h):=
 ⟨hm.k.keep hf,zb4 hm.x hx,hm.id,fun q hq=>Zh.2 (.inr (hm.has q hq)),fun q hq=>by
  show findL nm (findH q (qu w.n.hv h)).1.lines=_
  rw[zhQ hm.k.srt]
  split
  ·rename_i e
   rcases hp with hp|hp
   ·exact absurd (e.trans hp) hq
   ·rw[←hm.reg q hq,e];exact hp
  ·exact hm.reg q hq,hm.fnd,hm.fc,hm.fi⟩
theorem zE9 {nm:ByteArray} {fr p:Int} {n0:zQ} {w:Wk} (hm:Mv nm fr n0 w) (hp:hasP p w.n.hv=true):Mv nm fr n0 (qP w p):=by
 obtain⟨h1,h2,h3⟩:=hm.k.find hp
 have hx:=hm.x _ h3
 have:=zCZ (h:=Yj (findH p w.n.hv).1) hm (ziV h1) ⟨hx.1,hx.2.1,hx.2.2⟩ (.inr (by show _=findL nm (findH (findH p w.n.hv).1.peer w.n.hv).1.lines;rw[h2];rfl))
 exact⟨this.k,this.x,this.id,this.has,this.reg,this.fnd,this.fc,this.fi⟩
theorem zEh {n:zQ} {p q:Int} {nm:ByteArray} (hk:zy n) (hp:hasP p n.hv=true):findL nm (findH q (J0 n p).hv).1.lines=findL nm (findH q n.hv).1.lines:=by
 show findL nm (findH q (qu n.hv (Yj (findH p n.hv).1))).1.lines=_
 rw[zhQ hk.srt]
 split
 ·rename_i e
  have h2:(findH p n.hv).1.peer=p:=(hk.find hp).2.1
  have e':q=p:=e.trans h2
  rw[e'];rfl
 ·rfl
theorem zFk {nm:ByteArray} {fr p:Int} {w:Wk} (hk:zy w.n) (hp:hasP p w.n.hv=true) (h:Bo nm fr w):Bo nm fr (qP w p):=
 zBt h (fun e he=>by rw[zCk e he];omega) rfl (zEh hk hp)
theorem zDO {nm:ByteArray} {fr:Int} {n0:zQ}: ∀ {l:List Int} {w:Wk},Mv nm fr n0 w→Bo nm fr w→(∀p∈l,hasP p w.n.hv=true)→Mv nm fr n0 (yg w l)∧Bo nm fr (yg w l)
 |[],w,h,hb,_=>⟨h,hb⟩
 |p::l,w,h,hb,hl=>by
  have hp:=hl p (List.mem_cons_self ..)
  have h1:=jY h.k hp
  exact zDO (l:=l) (w:=qP w p) (zE9 h hp) (zFk h.k hp hb) fun q hq=>by rw[h1.has q];exact hl q (List.mem_cons_of_mem _ hq)
theorem zDR {nm:ByteArray}: ∀ {l:List Int} {w:Wk},zue nm w→zue nm (yg w l)
 |[],_,h=>h
 |p::l,w,h=>zDR (l:=l) (w:=qP w p) (zmz h)
theorem zmC {q:Int} {c:ByteArray}: ∀(l:List Hf),(findH q (Qy l c)).1.lines=jB (findH q l).1.lines c noG
 |[]=>rfl
 |h::l=>by
  show(findH q (zaL h c noG::Qy l c)).1.lines=_
  rw[Yo,Yo]
  show(if h.peer=q then _ else _:Hf×Bool).1.lines=_
  split
  ·rfl
  ·exact zmC l
theorem zcn {n:zQ} (h:zy n) (q:Int):Y8 (findH q n.hv).1.lines:=by
 cases hq:hasP q n.hv
 ·rw[zfy hq];simp[Y8]
 ·exact(z0.1 (h.find hq).1).2.2.1
theorem zDz {nm:ByteArray} {fr:Int} {n0:zQ}: ∀ {l:List It} {w:Wk} {b:Bool},Mv nm fr n0 w→(∀e∈w.es,e.kd≠3)→(∀x∈l,jC x.c=true)→zue nm (qU w b l).1∨(Mv nm fr n0 (qU w b l).1∧∀e∈(qU w b l).1.es,e.kd≠3)
 |[],w,b,h,hb,_=>.inr ⟨h,hb⟩
 | x ::l,w,b,h,hb,hl=>by
  rw[qU]
  split
  ·rename_i hc
   have hfc:=hl x (List.mem_cons_self ..)
   have k1:zy (w.n.chS (Qw w.n.ch x.c).1):=h.k.chS (zai h.k.ch hfc)
   by_cases hn:nm=x.c.nm
   ·left
    have key: ∀(l:List It) (w:Wk) (b:Bool),zue nm w→zue nm (qU w b l).1:=by
     intro l
     induction l with
     |nil=>intro w b h;exact h
     |cons y l ih=>
      intro w b h
      rw[qU];split
      ·exact ih _ _ (zmz (w:=⟨w.n.chS (Qw w.n.ch y.c).1,w.ps,w.es⟩) h)
      ·exact ih _ _ h
    exact key _ _ _ ⟨w.es,_,[],rfl,rfl,hn.symm,hb⟩
   ·have hs:=(zH.1 h.k.ch).2.2.2.1
    have hft:=zEs hs hc hn
    have hln: ∀q,findL nm (findH q (Qy w.n.hv x.c.nm)).1.lines=findL nm (findH q w.n.hv).1.lines:=fun q=>by
     rw[zmC];exact zej (zcn h.k q) hn
    refine zDz (l:=l) (w:=jA ⟨w.n.chS (Qw w.n.ch x.c).1,w.ps,w.es⟩ x.c) ⟨k1.frsh,zpB k1 (zpq h.x (zwu hc)),h.id,fun q hq=>?_,fun q hq=>?_,?_,?_,?_⟩ ?_ fun y hy=>hl y (List.mem_cons_of_mem _ hy)
    ·show hasP q (Qy w.n.hv x.c.nm)=true
     rw[ztO];exact h.has q hq
    ·exact(hln q).trans (h.reg q hq)
    ·show(findT nm (Qw w.n.ch x.c).1).2=_
     rw[hft];exact h.fnd
    ·show(findT nm (Qw w.n.ch x.c).1).1.c=_
     rw[hft];exact h.fc
    ·show(findT nm (Qw w.n.ch x.c).1).1.inp=_
     rw[hft];exact h.fi
    ·intro e he;rcases List.mem_append.1 he with he|he;exact hb e he;rw[List.mem_singleton]at he;subst he;simp
  ·exact zDz h hb fun y hy=>hl y (List.mem_cons_of_mem _ hy)
theorem zDF {me p v w f rest told:Int} (h:(zbq me p v w f rest told).2.2=0) (hz:(zbq me p v w f rest told).2.1≠0):flowB (zbq me p v w f rest told).2.1=true∧(zbq me p v w f rest told).1.2.1=me∧ZK (zbq me p v w f rest told).1=false:=by
 unfold zbq at h hz ⊢
 split
 ·rename_i h1;rw[if_pos h1]at h;exact absurd h h1
 ·rename_i h1
  rw[if_neg h1]at h hz
  split
  ·rename_i h2;rw[if_pos h2]at h;exact absurd h h2
  ·rename_i h2
   rw[if_neg h2]at hz
   simp only at hz ⊢
   have h3:(Yu v w f p me (((je me p v w f rest told).2.1 - (je me p v w f rest told).1).tdiv 2) me).2=0:=by simpa using h2
   generalize ((je me p v w f rest told).2.1 - (je me p v w f rest told).1).tdiv 2=am at h3 hz ⊢
   unfold Yu at h3 ⊢
   repeat' split at h3
   all_goals first|exact absurd h3 (by decide)|skip
   rename_i c1 c2 c4
   rw[if_neg c1,if_neg c2,if_neg hz,if_neg c4]
   simp only[Bool.or_eq_true,Bool.not_eq_true',not_or,Bool.not_eq_false]at c1 c2
   have hv:=zs8 c1.1
   refine⟨c2,rfl,?_⟩
   simp[ZK];omega
theorem zDM {nm : ByteArray} {kd fr:Int} {n0:zQ} {w:Wk} {x:It} (h:Mv nm fr n0 w) (hp:hasP fr w.n.hv=true) (hx:itmB x=true):
    Mv nm fr n0 (yZ w kd fr x)∧(x.c.nm≠nm→Bo nm fr w→Bo nm fr (yZ w kd fr x))∧((∀e∈w.es,¬(e.kd=3∧e.nm=nm))→Bo nm fr (yZ w kd fr x)):=by
  have hn:=zeG (y8 hx)
  obtain⟨h1,h2,h3⟩:=h.k.find hp
  have bo0: ∀ {v:Wk},v.es=w.es→(∀e∈w.es,¬(e.kd=3∧e.nm=nm))→Bo nm fr v:=fun {v} e hh=>⟨fun a ha b c=>absurd ⟨b,c⟩ (hh a (by rw[←e];exact ha)),.inl (by rw[e];exact zie hh)⟩
  have boT: ∀ {v:Wk} {a:ZF},v.es=w.es++[a]→a.kd≠3→(∀e∈w.es,¬(e.kd=3∧e.nm=nm))→Bo nm fr v:=fun {v a} e ha hh=>by
    have hq: ∀e∈v.es,¬(e.kd=3∧e.nm=nm):=fun b hb=>by
      rw[e]at hb
      rcases List.mem_append.1 hb with hb|hb
      · exact hh b hb
      · rw[List.mem_singleton]at hb;subst hb;exact fun c=>ha c.1
    exact⟨fun a ha b c=>absurd ⟨b,c⟩ (hq a ha),.inl (zie hq)⟩
  unfold yZ
  split
  · exact⟨h,fun _ hb=>hb,fun hh=>bo0 rfl hh⟩
  · rename_i ho
    split
    · have hu:=zCx (nm:=nm) (n:=x.c.nm) (f:=zqF w.n.id x.mn x.mx) (fun y=>⟨zrz _ _ _ y,by unfold zqF;split<;>rfl⟩) w.n.ch
      refine⟨⟨(zjz h.k (znQ h.k.ch (zfc hx).1 (zfc hx).2)).k,ztW h.x (zcC (zrz _ _ _) _),h.id,h.has,h.reg,hu.1.trans h.fnd,hu.2.1.trans h.fc,hu.2.2.trans h.fi⟩,fun _ hb=>zFc hb rfl rfl,fun hh=>bo0 rfl hh⟩
    · rename_i h4
      have hok:=zzj h.k (by simpa using ho) h4
      have hmf:=zcq (g:=(x.ve,x.wt,x.fl)) h1 hn
      have hmx:XH w.n.want w.n.seen w.n.ch (QG w.n.id (findH fr w.n.hv).1 x.c.nm (x.ve,x.wt,x.fl)).1:=zy1 (h.x _ h3) hok
      have hmp:(QG w.n.id (findH fr w.n.hv).1 x.c.nm (x.ve,x.wt,x.fl)).1.peer=fr:=by rw[zhj,h2]
      have hk:=zCZ h hmf hmx (.inl hmp)
      have hln:x.c.nm≠nm→findL nm (findH fr (Q4 w (QG w.n.id (findH fr w.n.hv).1 x.c.nm (x.ve,x.wt,x.fl)).1).n.hv).1.lines=findL nm (findH fr w.n.hv).1.lines:=fun hne=>by
        show findL nm (findH fr (qu w.n.hv _)).1.lines=_
        rw[zhQ h.k.srt,if_pos hmp.symm]
        unfold QG;simp only;split
        · exact zej (zcn h.k fr) (Ne.symm hne)
        · rfl
      have hkb:x.c.nm≠nm→Bo nm fr w→Bo nm fr (Q4 w (QG w.n.id (findH fr w.n.hv).1 x.c.nm (x.ve,x.wt,x.fl)).1):=fun hne hb=>zFc hb rfl (hln hne)
      split
      · obtain ⟨m,hm⟩: ∃m,m=Q4 w (QG w.n.id (findH fr w.n.hv).1 x.c.nm (x.ve,x.wt,x.fl)).1:=⟨_,rfl⟩
        have hes:m.es=w.es:=by rw[hm];rfl
        have hok2:OkL m.n.ch x.c.nm:=by rw[hm];exact hok
        rw[←hm]at hk hkb ⊢
        have hpm:hasP fr m.n.hv=true:=by rw[hm];exact Zh.2 (.inl hmp.symm)
        obtain⟨g1,g2,g3⟩:=hk.k.find hpm
        unfold Yp
        simp only
        split
        · exact⟨⟨hk.k,hk.x,hk.id,hk.has,hk.reg,hk.fnd,hk.fc,hk.fi⟩,fun hne hb=>zBt (hkb hne hb) (by intro e he;rw[List.mem_singleton]at he;subst he;simp) rfl rfl,fun hh=>boT (by rw[←hes];rfl) (by simp) hh⟩
        · split
          · exact⟨⟨hk.k,hk.x,hk.id,hk.has,hk.reg,hk.fnd,hk.fc,hk.fi⟩,fun hne hb=>zBt (hkb hne hb) (by intro e he;rw[List.mem_singleton]at he;subst he;simp) rfl rfl,fun hh=>boT (by rw[←hes];rfl) (by simp) hh⟩
          · rename_i hb0
            have hb0':=(Decidable.not_not.1 hb0)
            split
            · rename_i hz
              have hfit:=zvT hb0'
              obtain⟨a1,a2,a3⟩:=zDF hb0' hz
              generalize zbq m.n.id fr (findL x.c.nm (findH fr m.n.hv).1.lines).1 (findL x.c.nm (findH fr m.n.hv).1.lines).2.1 (findL x.c.nm (findH fr m.n.hv).1.lines).2.2 (Yt m.n.id (findT x.c.nm m.n.ch).1.inp m.n.hv x.c.nm fr).1 x.rs=B at*
              have hf2:qQ m.n.id (zaL (findH fr m.n.hv).1 x.c.nm B.1)=true:=zaF g1 (.inr ⟨hn,by rw[g2];exact hfit⟩)
              have hk2:=zCZ hk hf2 (zov (hk.x _ g3) hok2) (.inl g2)
              have hl2:findL nm (findH fr (Q4 m (zaL (findH fr m.n.hv).1 x.c.nm B.1)).n.hv).1.lines=findL nm (jB (findH fr m.n.hv).1.lines x.c.nm B.1):=by
                show findL nm (findH fr (qu m.n.hv _)).1.lines=_
                rw[zhQ hk.k.srt,if_pos (by rw[zpX,g2])];rfl
              refine⟨⟨hk2.k,hk2.x,hk2.id,hk2.has,hk2.reg,hk2.fnd,hk2.fc,hk2.fi⟩,fun hne hb=>?_,fun hh=>?_⟩
              · refine zBt (w:=m) (hkb hne hb) (by intro e he;rw[List.mem_singleton]at he;subst he;simp;exact hne) rfl ?_
                rw[hl2];exact zej (zcn hk.k fr) (Ne.symm hne)
              · rw[←hes]at hh
                refine⟨fun e he c3 cn=>?_,?_⟩
                · rcases List.mem_append.1 he with he|he
                  · exact absurd ⟨c3,cn⟩ (hh e he)
                  · rw[List.mem_singleton]at he;subst he;exact⟨hz,rfl⟩
                · show mvd nm (m.es++[⟨3,fr,x.c.nm,B.2.1⟩])=0∨(flowB (mvd nm (m.es++[⟨3,fr,x.c.nm,B.2.1⟩]))=true∧_)
                  rw[zAm,zie hh]
                  by_cases hq:x.c.nm=nm
                  · right
                    have e1:(0:Int)+mvd nm [⟨3,fr,x.c.nm,B.2.1⟩]=B.2.1:=by simp[mvd,hq]
                    rw[e1]
                    refine⟨a1,?_⟩
                    show(findL nm (findH fr (Q4 m (zaL (findH fr m.n.hv).1 x.c.nm B.1)).n.hv).1.lines).2.1=m.n.id
                    rw[hl2,hq,zmx (zcn hk.k fr) a3 (by rw[←hq];exact room hk.k (hk.x _ g3) g1 hok2)]
                    exact a2
                  · left;simp[mvd,hq]
            · exact⟨hk,fun hne hb=>hkb hne hb,fun hh=>bo0 hes hh⟩
      · exact⟨hk,hkb,fun hh=>bo0 rfl hh⟩
theorem zDI {nm:ByteArray} {kd fr:Int} {n0:zQ}: ∀ {l:List It} {w:Wk},Mv nm fr n0 w→hasP fr w.n.hv=true→(∀x∈l,itmB x=true)→(∀x∈l,x.c.nm≠nm)→Bo nm fr w→Mv nm fr n0 (yo w kd fr l)∧Bo nm fr (yo w kd fr l)
 |[],w,h,_,_,_,hb=>⟨h,hb⟩
 |x::l,w,h,hp,hl,hn,hb=>by
  have hx:=hl x (List.mem_cons_self ..)
  have h1:=zDM (kd:=kd) h hp hx
  have s1:=zb1 (kd:=kd) h.k hp hx
  exact zDI (l:=l) (w:=yZ w kd fr x) h1.1 (by rw[s1.has];exact hp) (fun y hy=>hl y (List.mem_cons_of_mem _ hy)) (fun y hy=>hn y (List.mem_cons_of_mem _ hy)) (h1.2.1 (hn x (List.mem_cons_self ..)) hb)
theorem zEU {nm:ByteArray} {kd fr:Int} {w:Wk} {x:It} (hn:x.c.nm≠nm) (h: ∀e∈w.es,¬(e.kd=3∧e.nm=nm)): ∀e∈(yZ w kd fr x).es,¬(e.kd=3∧e.nm=nm):=by
 have key: ∀ {m:Wk},m.es=w.es→∀e∈(Yp m fr x).es,¬(e.kd=3∧e.nm=nm):=fun {m} hes e he=>by
  unfold Yp at he;simp only at he
  repeat' split at he
  all_goals first|(rw[hes]at he;exact h e he)|skip
  all_goals
   simp only[YW,Q4]at he
   rcases List.mem_append.1 he with he|he
   ·rw[hes]at he;exact h e he
   ·rw[List.mem_singleton]at he;subst he;simp;try exact hn
 intro e he
 unfold yZ at he
 repeat' split at he
 ·exact h e he
 ·exact h e he
 ·exact key (m:=Q4 w _) rfl e he
 ·exact h e he
theorem zEn {nm:ByteArray} {kd fr:Int} {n0:zQ}: ∀ {l:List It} {w:Wk},Mv nm fr n0 w→hasP fr w.n.hv=true→(∀x∈l,itmB x=true)→Qb (l.map (·.c))→(∀e∈w.es,¬(e.kd=3∧e.nm=nm))→Mv nm fr n0 (yo w kd fr l)∧Bo nm fr (yo w kd fr l)
 |[],w,h,_,_,_,hh=>⟨h,⟨fun a ha b c=>absurd ⟨b,c⟩ (hh a ha),.inl (zie hh)⟩⟩
 | x::l,w,h,hp,hl,hs,hh=>by
  have hx:=hl x (List.mem_cons_self ..)
  have hs':=List.pairwise_cons.1 hs
  have h1:=zDM (kd:=kd) h hp hx
  have s1:=zb1 (kd:=kd) h.k hp hx
  have hp1:hasP fr (yZ w kd fr x).n.hv=true:=by rw[s1.has];exact hp
  have hl1: ∀y∈l,itmB y=true:=fun y hy=>hl y (List.mem_cons_of_mem _ hy)
  rw[yo]
  by_cases hn:x.c.nm=nm
  ·refine zDI h1.1 hp1 hl1 (fun y hy=>?_) (h1.2.2 hh)
   have:=hs'.1 y.c (List.mem_map.2 ⟨y,hy,rfl⟩)
   rintro e;rw[hn,e,y4]at this;cases this
  ·exact zEn h1.1 hp1 hl1 hs'.2 (zEU hn hh)
theorem zEw {nm:ByteArray} {kd fr:Int}: ∀ {l:List It} {w:Wk},zue nm w→zue nm (yo w kd fr l)
 |[],_,h=>h
 | x::l,w,h=>by
  rw[yo]
  refine zEw ?_
  have key: ∀ {m:Wk},zue nm m→zue nm (Yp m fr x):=fun {m} hm=>by
   unfold Yp;simp only;repeat' split
   ·exact zmz hm
   ·exact zmz hm
   ·exact zmz (w:=Q4 m _) hm
   ·exact hm
  unfold yZ;repeat' split
  ·exact h
  ·exact h
  ·exact key (m:=Q4 w _) h
  ·exact h
def rstN (n:zQ) (nm:ByteArray) (peer:Int):Int×Int:=if !(findT nm n.ch).2 then(0,44)else if !QQ (findT nm n.ch).1.c.kd then(0,46)else Yt n.id (findT nm n.ch).1.inp n.hv nm peer
def estN (n:zQ) (nm:ByteArray):Int×Int:=if !(findT nm n.ch).2 then(0,44)else if !QQ (findT nm n.ch).1.c.kd then(0,46)else zxY n.id (findT nm n.ch).1.inp n.hv nm
theorem inp_wr {n:zQ} {nm:ByteArray} (h:zy n):wr (findT nm n.ch).1.inp=(findT nm n.ch).1.inp:=by
 rcases hf:findT nm n.ch with⟨s,b⟩
 cases b
 ·have h0:=ze3 (zeg (l:=n.ch) (n:=nm) (by rw[hf]))
  rw[hf]at h0;injection h0 with h0 _;subst h0;rfl
 ·have:=ZQ (yM.1 ((zH.1 h.ch).2.2.2.2.2 s (Q3 hf).1)).2.2.1
  exact yj (by simp only;omega)
theorem zEf {v w f a b:Int} (h: ¬(0≤b∧b<16)):outR v w f a b=0:=by
 unfold outR
 have:nodeB b=false:=by cases hb:nodeB b;rfl;exact absurd (qd.1 hb) h
 simp[Qd,this]
theorem zDd {s:Int} (h:(zeu s).2=0):(zeu s).1=s∧flowB s=true:=by
 unfold zeu at h ⊢;split
 ·rename_i hc;exact⟨rfl,hc⟩
 ·rename_i hc;rw[if_neg hc]at h;cases h
theorem zES {n:zQ} {nm:ByteArray} {fr:Int} (h:zy n) (h1:(rstN n nm fr).2=0) (h2:(estN n nm).2=0):(estN n nm).1=wr ((rstN n nm fr).1 - outR (findL nm (findH fr n.hv).1.lines).1 (findL nm (findH fr n.hv).1.lines).2.1 (findL nm (findH fr n.hv).1.lines).2.2 n.id fr):=by
 unfold rstN at h1 ⊢
 unfold estN at h2 ⊢
 split at h1
 ·cases h1
 ·rename_i c1
  rw[if_neg c1]at h2 ⊢
  rw[if_neg c1]
  split at h1
  ·cases h1
  ·rename_i c2
   rw[if_neg c2]at h2 ⊢
   rw[if_neg c2]
   rw[zC7 h.hv (inp_wr h)]at h1 ⊢
   rw[zEK h.hv (inp_wr h)]at h2 ⊢
   obtain⟨e1,_⟩:=zDd h1
   obtain⟨e2,_⟩:=zDd h2
   rw[e1,e2]
   by_cases hf:0≤fr∧fr<16
   ·rw[zEj hf]
    show wr _=wr (wr _ - zrx n.id nm fr (findH fr n.hv).1)
    simp only[wr,IntKind.wrap_i64];omega
   ·rw[zDW hf,zEf hf]
    simp only[wr,IntKind.wrap_i64];omega
theorem zEr {n m:zQ} {nm:ByteArray} {fr:Int} (hn:zy n) (hm:zy m) (hi:m.id=n.id) (hr: ∀q,q≠fr→findL nm (findH q m.hv).1.lines=findL nm (findH q n.hv).1.lines) (h1:(findT nm m.ch).2=(findT nm n.ch).2) (h2:(findT nm m.ch).1.c=(findT nm n.ch).1.c) (h3:(findT nm m.ch).1.inp=(findT nm n.ch).1.inp):rstN m nm fr=rstN n nm fr:=by
 unfold rstN
 rw[zC7 hn.hv (inp_wr hn),zC7 hm.hv (inp_wr hm),h1,h2,h3,hi]
 rw[zD1 (l:=m.hv) (m:=n.hv) (q:=fun n=>decide (n≠fr)) fun p hp=>hr p (by simpa using hp)]
structure zCR (nm:ByteArray) (fr:Int) (n:zQ) (w:Wk):Prop where
 all: ∀e∈w.es,e.kd=3→e.nm=nm→e.num≠0∧e.pr=fr
 regs: ∀g∈n.hv,hasP g.peer w.n.hv=true∧(g.peer≠fr→findL nm (findH g.peer w.n.hv).1.lines=findL nm g.lines)
 rest:rstN w.n nm fr=rstN n nm fr
 one:mvd nm w.es≠0→flowB (mvd nm w.es)=true∧(findL nm (findH fr w.n.hv).1.lines).2.1=n.id
 est:(rstN w.n nm fr).2=0→(estN w.n nm).2=0→(estN w.n nm).1=wr ((rstN w.n nm fr).1 - outR (findL nm (findH fr w.n.hv).1.lines).1 (findL nm (findH fr w.n.hv).1.lines).2.1 (findL nm (findH fr w.n.hv).1.lines).2.2 n.id fr)
theorem zDE {nm:ByteArray} {fr:Int} {n:zQ} {w:Wk} (hn:zy n) (h:Mv nm fr n w) (hb:Bo nm fr w):zCR nm fr n w:=by
 refine⟨hb.all,fun g hg=>?_,zEr hn h.k h.id h.reg h.fnd h.fc h.fi,fun hz=>?_,fun h1 h2=>?_⟩
 ·have hp:hasP g.peer n.hv=true:=yP.2 (List.mem_map.2 ⟨g,hg,rfl⟩)
  refine⟨h.has _ hp,fun hne=>?_⟩
  rw[h.reg _ hne,zha hn.srt hg]
 ·rcases hb.one with e|⟨e1,e2⟩
  ·exact absurd e hz
  ·exact⟨e1,by rw[e2,h.id]⟩
 ·rw[←h.id];exact zES h.k h1 h2
theorem zER {nm:ByteArray} {fr:Int} {n:zQ} {ps:List qO} {es:List ZF} (h:zy n) (hx:FitX n):Mv nm fr n ⟨n,ps,es⟩:=⟨h,hx,rfl,fun _ h=>h,fun _ _=>rfl,rfl,rfl,rfl⟩
theorem zFy {n:zQ} {p:qO} (nm:ByteArray) (h:zaj n=true) (hk3:p.kd=3):zue nm (jp n p)∨zCR nm p.fr n (jp n p):=by
 obtain⟨hk,hx⟩:=jV.1 h
 have plain: ∀ {ps:List qO} {es:List ZF},(∀e∈es,e.kd≠3)→zCR nm p.fr n ⟨n,ps,es⟩:=fun {ps es} he=>
  zDE hk (zER hk hx) ⟨fun e hm h3 _=>absurd h3 (he e hm),.inl (zie fun e hm c=>he e hm c.1)⟩
 unfold jp
 simp only
 split
 ·exact .inr (plain (by intro e he;rw[List.mem_append]at he;rcases he with he|he;cases he;rw[List.mem_singleton]at he;subst he;simp))
 ·rename_i hc
  simp only[Bool.or_eq_true,Bool.not_eq_true',decide_eq_true_eq,decide_eq_false_iff_not,not_or,Bool.not_eq_false,ne_eq,Decidable.not_not]at hc
  have hp:=Qc hc.1.1 hc.1.2
  have hsrt:Qb (p.its.map (·.c)):=by
   have:=(zl5.1 hc.1.1).2.2.2.2.2.2.2.2
   rw[if_pos (.inl hk3)]at this
   exact(zik.1 this.2).1
  repeat' split
  ·exact .inr (plain (by intro e he;cases he))
  ·have hs:=zyS hk hx hp
   have ks:=hk.see hp
   unfold Q9
   rw[if_pos (by omega)]
   have hp':Jg (qW n p) p:=⟨hp.fr,hp.ne,hp.bt,hp.lf,hp.its⟩
   have m0:Mv nm p.fr n ⟨qW n p,[],[]⟩:=⟨ks,hs.1,rfl,fun _ h=>h,fun _ _=>rfl,rfl,rfl,rfl⟩
   obtain⟨k1,k2,k3,k4⟩:=Jk (w:=⟨qW n p,[],[]⟩) (kd:=p.kd) ks hp'.fr hp'.ne hp'.bt hp'.lf
   have x1:=zvw (w:=⟨qW n p,[],[]⟩) (kd:=p.kd) ks hs.1 hp'.fr hp'.ne hp'.bt hp'.lf hc.2 hs.2
   have hpe:=(zka (kd:=p.kd) ks hp'.fr hp'.ne hp'.bt hp'.lf).2
   have m1:Mv nm p.fr n (qf ⟨qW n p,[],[]⟩ p.kd p.fr p.bt p.lf):=by
    have e:(qf ⟨qW n p,[],[]⟩ p.kd p.fr p.bt p.lf).n=(qW n p).hvS (qu n.hv (jJ (qW n p) p.kd p.fr p.bt p.lf)):=by unfold qf;split<;>rfl
    refine⟨k1,x1,by rw[e];rfl,fun q hq=>?_,fun q hq=>?_,by rw[e];rfl,by rw[e];rfl,by rw[e];rfl⟩
    ·rw[e];exact Zh.2 (.inr hq)
    ·rw[e]
     show findL nm (findH q (qu n.hv _)).1.lines=_
     rw[zhQ hk.srt,if_neg (by rw[hpe];exact hq)]
   have e1: ∀e∈(qf ⟨qW n p,[],[]⟩ p.kd p.fr p.bt p.lf).es,e.kd≠3:=fun e he=>by
    unfold qf at he;split at he
    ·rw[show(Q4 (YW ⟨qW n p,[],[]⟩ ⟨1,p.fr,yI,p.bt⟩) (jJ (qW n p) p.kd p.fr p.bt p.lf)).es=[⟨1,p.fr,yI,p.bt⟩]from rfl,List.mem_singleton]at he
     subst he;simp
    ·cases he
   have fin: ∀(w4:Wk) (a b:Bool),zue nm w4→zue nm (YA w4 a b p.fr):=fun w4 a b hl=>zDR hl
   unfold ZL
   simp only
   rw[if_pos hk3]
   rcases zDz (l:=p.its) (b:=false) m1 e1 fun x hx=>y8 (hp.its x hx)with hl|⟨m2,e2⟩
   ·left
    refine fin _ _ _ ?_
    have h3:=zEw (kd:=p.kd) (fr:=p.fr) (l:=p.its) hl
    obtain⟨A,e,B,h4,h5⟩:=h3
    exact⟨A,e,B,h4,h5⟩
   ·right
    have s1:=Yx (b:=false) k1 fun x hx=>y8 (hp.its x hx)
    have hh:hasP p.fr (qU (qf ⟨qW n p,[],[]⟩ p.kd p.fr p.bt p.lf) false p.its).1.n.hv=true:=by rw[s1.has];exact k2
    obtain⟨m3,b3⟩:=zEn (kd:=p.kd) m2 hh hp.its hsrt fun e he c=>e2 e he c.1
    have m4:Mv nm p.fr n (J1 (yo (qU (qf ⟨qW n p,[],[]⟩ p.kd p.fr p.bt p.lf) false p.its).1 p.kd p.fr p.its) p.fr p.bt p.lf):=⟨m3.k,m3.x,m3.id,m3.has,m3.reg,m3.fnd,m3.fc,m3.fi⟩
    have b4:Bo nm p.fr (J1 (yo (qU (qf ⟨qW n p,[],[]⟩ p.kd p.fr p.bt p.lf) false p.its).1 p.kd p.fr p.its) p.fr p.bt p.lf):=zFc b3 rfl rfl
    unfold YA
    obtain⟨m5,b5⟩:=zDO m4 b4 (l:=List.filter (fun q=>(qU (qf ⟨qW n p,[],[]⟩ p.kd p.fr p.bt p.lf) false p.its).2||(Z4 (findH p.fr (qW n p).hv) p.bt p.lf&&decide (q=p.fr))) (qg (J1 (yo (qU (qf ⟨qW n p,[],[]⟩ p.kd p.fr p.bt p.lf) false p.its).1 p.kd p.fr p.its) p.fr p.bt p.lf).n.hv)) fun q hq=>yP.2 (List.mem_filter.1 hq).1
    exact zDE hk m5 b5
  ·exact .inr (plain (by intro e he;rw[List.mem_append]at he;rcases he with he|he;cases he;rw[List.mem_singleton]at he;subst he;simp))
end Go.Proofs.YtbcbnfiedgnfpaaGreat
