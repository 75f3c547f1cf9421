import Derived.Test.YtbcbnfiedgnfpaaGreatZ24
import Derived.Test.YtbcbnfiedgnfpaaGreatRows
import Derived.ProofKit
import Derived.OpenShut
import Derived.JoinedCond
import Derived.Lib.SmallJoins
import Derived.Deep.Slices
set_option linter.unusedSimpArgs false
set_option linter.unusedVariables false
set_option maxRecDepth 100000
set_option maxHeartbeats 2000000
namespace Go.Proofs.YtbcbnfiedgnfpaaGreat
open Go.Dl
theorem zxH {a b c d:Int}:latB a b c d=true↔c<a∨(a=c∧d<b):=by simp[latB]
theorem ziz {a b c d:Int}:latB a b c d=false↔¬(c<a∨(a=c∧d<b)):=by rw[←zxH];simp
theorem zeE {a b c d:Int}:newR a b c d=true↔c<a∨(a=c∧b<d):=by simp[newR]
theorem zuM {a b c d:Int}:newR a b c d=false↔¬(c<a∨(a=c∧b<d)):=by rw[←zeE];simp
def LeG (g h:jQ):Prop:=newR g.1 g.2.1 h.1 h.2.1=false
theorem LeG.refl (g:jQ):LeG g g:=by unfold LeG;rw[zuM];omega
theorem LeG.trans {a b c:jQ} (h1:LeG a b) (h2:LeG b c):LeG a c:=by unfold LeG at*;rw[zuM]at*;omega
def Upp (nm:ByteArray) (a b:List Ch):Prop:=∀c∈a,c.nm=nm→∃d∈b,d.nm=nm∧newR d.ep d.ma c.ep c.ma=true
structure Nv (a b:zQ):Prop where
 half: ∀p,hasP p a.hv=true→hasP p b.hv=true∧latB (findH p a.hv).1.boot (findH p a.hv).1.life (findH p b.hv).1.boot (findH p b.hv).1.life=false∧
  ((findH p a.hv).1.boot=(findH p b.hv).1.boot→(findH p a.hv).1.life=(findH p b.hv).1.life→∀nm,LeG (findL nm (findH p a.hv).1.lines) (findL nm (findH p b.hv).1.lines)∨Upp nm (recT a.ch) (recT b.ch))
 up: ∀c∈recT a.ch,∃d∈recT b.ch,d.nm=c.nm∧(d=c∨newR d.ep d.ma c.ep c.ma=true)
theorem Nv.refl (a:zQ):Nv a a:=⟨fun p hp=>⟨hp,by rw[ziz];omega,fun _ _ nm=>.inl (.refl _)⟩,fun c hc=>⟨c,hc,rfl,.inl rfl⟩⟩
theorem Nv.trans {a b c:zQ} (h1:Nv a b) (h2:Nv b c):Nv a c:=by
 refine⟨fun p hp=>?_,fun x hx=>?_⟩
 ·obtain⟨a1,a2,a3⟩:=h1.half p hp
  obtain⟨b1,b2,b3⟩:=h2.half p a1
  refine⟨b1,by rw[ziz]at*;omega,fun e1 e2 nm=>?_⟩
  have q1:(findH p a.hv).1.boot=(findH p b.hv).1.boot∧(findH p a.hv).1.life=(findH p b.hv).1.life:=by rw[ziz]at*;omega
  rcases a3 q1.1 q1.2 nm with g|g
  ·rcases b3 (by omega) (by omega) nm with g'|g'
   ·exact .inl (g.trans g')
   ·right
    intro x hx e
    obtain⟨d,hd,f1,f2⟩:=h1.up x hx
    obtain⟨y,hy,f3,f4⟩:=g' d hd (f1.trans e)
    refine⟨y,hy,f3,?_⟩
    rcases f2 with rfl|f2
    ·exact f4
    ·rw[zeE]at*;omega
  ·right
   intro x hx e
   obtain⟨d,hd,f1,f2⟩:=g x hx e
   obtain⟨y,hy,f3,f4⟩:=h2.up d hd
   refine⟨y,hy,f3.trans f1,?_⟩
   rcases f4 with rfl|f4
   ·exact f2
   ·rw[zeE]at*;omega
 ·obtain⟨d,hd,f1,f2⟩:=h1.up x hx
  obtain⟨y,hy,f3,f4⟩:=h2.up d hd
  refine⟨y,hy,f3.trans f1,?_⟩
  rcases f2 with rfl|f2
  ·exact f4
  ·rcases f4 with rfl|f4
   ·exact .inr f2
   ·right;rw[zeE]at*;omega
theorem zFF {n:zQ} {l:List Hf} (h: ∀p,hasP p n.hv=true→hasP p l=true∧latB (findH p n.hv).1.boot (findH p n.hv).1.life (findH p l).1.boot (findH p l).1.life=false∧
  ((findH p n.hv).1.boot=(findH p l).1.boot→(findH p n.hv).1.life=(findH p l).1.life→∀nm,LeG (findL nm (findH p n.hv).1.lines) (findL nm (findH p l).1.lines))):Nv n (n.hvS l):=
 ⟨fun p hp=>⟨(h p hp).1,(h p hp).2.1,fun e1 e2 nm=>.inl ((h p hp).2.2 e1 e2 nm)⟩,fun c hc=>⟨c,hc,rfl,.inl rfl⟩⟩
theorem ztB {n:zQ} {h:Hf} (hk:zy n) (hh:hasP h.peer n.hv=true→latB (findH h.peer n.hv).1.boot (findH h.peer n.hv).1.life h.boot h.life=false∧((findH h.peer n.hv).1.boot=h.boot→(findH h.peer n.hv).1.life=h.life→∀nm,LeG (findL nm (findH h.peer n.hv).1.lines) (findL nm h.lines))):Nv n (n.hvS (qu n.hv h)):=by
 refine zFF fun p hp=>⟨Zh.2 (.inr hp),?_⟩
 rw[zhQ hk.srt]
 by_cases e:p=h.peer
 ·subst e;rw[if_pos rfl];exact hh hp
 ·rw[if_neg e];exact⟨by rw[ziz];omega,fun _ _ nm=>.refl _⟩
theorem zFg {n:zQ} {l:List Tt} (h:recT l=recT n.ch):Nv n (n.chS l):=
 ⟨fun p hp=>⟨hp,by show latB _ _ (findH p n.hv).1.boot (findH p n.hv).1.life=false;rw[ziz];omega,fun _ _ nm=>.inl (.refl _)⟩,fun c hc=>⟨c,by show c∈recT l;rw[h];exact hc,rfl,.inl rfl⟩⟩
theorem zEB {n:zQ} {p:Int} (hk:zy n) (hp:hasP p n.hv=true):Nv n (J0 n p):=by
 have h2:=(hk.find hp).2.1
 refine ztB hk fun _=>?_
 have e:(Yj (findH p n.hv).1).peer=p:=h2
 rw[e]
 exact⟨by show latB _ _ (findH p n.hv).1.boot (findH p n.hv).1.life=false;rw[ziz];omega,fun _ _ nm=>.refl _⟩
theorem zCV: ∀ {l:List Int} {w:Wk},zy w.n→(∀p∈l,hasP p w.n.hv=true)→Nv w.n (yg w l).n
 |[],w,_,_=>.refl _
 |p::l,w,hk,hl=>by
  have hp:=hl p (List.mem_cons_self ..)
  have h1:=jY hk hp
  have h2:=zEB hk hp
  exact h2.trans (zCV (l:=l) (w:=qP w p) h1.k fun q hq=>by rw[h1.has q];exact hl q (List.mem_cons_of_mem _ hq))
theorem zEg {l:List Ch} (hs:Qb l) {c d:Ch} (hc:c∈l) (hd:d∈l) (e:c.nm=d.nm):c=d:=by
 induction l with
 |nil=>cases hc
 |cons x l ih=>
  have hs':=List.pairwise_cons.1 hs
  rcases List.mem_cons.1 hc with e1|hc1<;>rcases List.mem_cons.1 hd with e2|hd1
  ·rw[e1,e2]
  ·have:=hs'.1 d hd1;rw[←e1,e,y4]at this;cases this
  ·have:=hs'.1 c hc1;rw[←e2,e,y4]at this;cases this
  ·exact ih hs'.2 hc1 hd1
theorem zFb {n:zQ} {l:List Tt} {c:Ch} (hk:zy n) (hl:recT l=jX false (recT n.ch) c) (hc: ∀d∈recT n.ch,d.nm=c.nm→newR c.ep c.ma d.ep d.ma=true) (m:List Hf) (hm:m=Qy n.hv c.nm):Nv n ((n.chS l).hvS m):=by
 subst hm
 have hin:c∈recT l:=by rw[hl];exact zhe _
 refine⟨fun p hp=>?_,fun d hd=>?_⟩
 ·have hq:hasP p (Qy n.hv c.nm)=true:=by rw[ztO];exact hp
  have hb:(findH p (Qy n.hv c.nm)).1.boot=(findH p n.hv).1.boot∧(findH p (Qy n.hv c.nm)).1.life=(findH p n.hv).1.life:=by
   have: ∀l:List Hf,(findH p (Qy l c.nm)).1.boot=(findH p l).1.boot∧(findH p (Qy l c.nm)).1.life=(findH p l).1.life:=by
    intro l
    induction l with
    |nil=>exact⟨rfl,rfl⟩
    |cons x l ih=>
     show(findH p (zaL x c.nm noG::Qy l c.nm)).1.boot=_∧(findH p (zaL x c.nm noG::Qy l c.nm)).1.life=_
     rw[Yo,Yo]
     show(if x.peer=p then _ else _:Hf×Bool).1.boot=_∧(if x.peer=p then _ else _:Hf×Bool).1.life=_
     split
     ·exact⟨rfl,rfl⟩
     ·exact ih
   exact this _
  refine⟨hq,?_,fun _ _ nm=>?_⟩
  ·show latB _ _ (findH p (Qy n.hv c.nm)).1.boot (findH p (Qy n.hv c.nm)).1.life=false
   rw[hb.1,hb.2,ziz];omega
  ·by_cases e:nm=c.nm
   ·right
    intro d hd hn
    exact⟨c,hin,e.symm,hc d hd (hn.trans e)⟩
   ·left
    show LeG _ (findL nm (findH p (Qy n.hv c.nm)).1.lines)
    rw[zmC,zej (zcn hk p) e];exact .refl _
 ·by_cases e:d.nm=c.nm
  ·exact⟨c,hin,e.symm,.inr (hc d hd e)⟩
  ·exact⟨d,by show d∈recT l;rw[hl];exact zfY hd e,rfl,.inl rfl⟩
theorem zDY {l:List Tt} {c:Ch} (hs:Qb (recT l)) (h:(Qw l c).2=true): ∀d∈recT l,d.nm=c.nm→newR c.ep c.ma d.ep d.ma=true:=fun d hd e=>by
 unfold Qw at h
 split at h
 ·rename_i hc
  unfold yx at hc
  simp only at hc
  have hf:z5 (recT l) c.nm=(d,true):=by
   have: ∀ {m:List Ch},Qb m→d∈m→z5 m c.nm=(d,true):=by
    intro m
    induction m with
    |nil=>intro _ h;cases h
    | cons x m ih=>
     intro hs hm
     have hs':=List.pairwise_cons.1 hs
     rw[jF]
     rcases List.mem_cons.1 hm with rfl|hm
     ·rw[if_pos (by rw[e];simp)]
     ·have:=hs'.1 d hm
      rw[if_neg (by rw[←e,ztq this];simp)]
      exact ih hs'.2 hm
   exact this hs hd
  rw[hf]at hc
  simp only[Bool.not_true,Bool.false_and,Bool.false_eq_true,if_false]at hc
  split at hc
  ·assumption
  ·split at hc<;>simp at hc
 ·cases h
theorem zDy: ∀ {l:List It} {w:Wk} {b:Bool},zy w.n→(∀x∈l,jC x.c=true)→Nv w.n (qU w b l).1.n
 |[],w,b,_,_=>.refl _
 | x::l,w,b,h,hl=>by
  rw[qU]
  split
  ·rename_i hc
   have k1:=h.chS (zai h.ch (hl x (List.mem_cons_self ..)))
   have h1:=zFb h (zwu hc) (zDY (zH.1 h.ch).2.2.2.1 hc) _ rfl
   exact h1.trans (zDy (l:=l) (w:=jA ⟨w.n.chS (Qw w.n.ch x.c).1,w.ps,w.es⟩ x.c) k1.frsh fun y hy=>hl y (List.mem_cons_of_mem _ hy))
  ·exact zDy h fun y hy=>hl y (List.mem_cons_of_mem _ hy)
theorem zDl {n:zQ} {p:Int} (h:zy n) (hp:hasP p n.hv=true) (nm:ByteArray):Qd (findL nm (findH p n.hv).1.lines).1 (findL nm (findH p n.hv).1.lines).2.1 (findL nm (findH p n.hv).1.lines).2.2 n.id p=true:=by
 obtain⟨h1,h2,h3⟩:=h.find hp
 obtain⟨q1,_,_,q2⟩:=z0.1 h1
 rw[zcw,h2]at q1;rw[h2]at q2
 exact zq3 q1.1 q1.2.1 q1.2.2.1 q2
theorem zDS {l:List Ln} {c:ByteArray} {g:jQ} (hs:Y8 l) (hg:LeG (findL c l) g) (hz:ZK g=false) (nm:ByteArray):LeG (findL nm l) (findL nm (jB l c g)):=by
 by_cases e:nm=c
 ·subst e
  by_cases hr:qY nm l=true∨l.length<8
  ·rw[zmx hs hz hr];exact hg
  ·have hr':qY nm l=false∧8≤l.length:=by
    rw[not_or]at hr;exact⟨by simpa using hr.1,by omega⟩
   have:jB l nm g=l:=by
    unfold jB;rw[if_pos (by rw[hr'.1,hz];simp;exact hr'.2)]
   rw[this];exact .refl _
 ·rw[zej hs e];exact .refl _
theorem zEN {n:zQ} {fr:Int} {nm:ByteArray} {g:jQ} (hk:zy n) (hp:hasP fr n.hv=true):Nv n (n.hvS (qu n.hv (QG n.id (findH fr n.hv).1 nm g).1)):=by
 obtain⟨h1,h2,h3⟩:=hk.find hp
 refine ztB hk fun _=>?_
 rw[zhj,h2]
 have hb:(QG n.id (findH fr n.hv).1 nm g).1.boot=(findH fr n.hv).1.boot∧(QG n.id (findH fr n.hv).1 nm g).1.life=(findH fr n.hv).1.life:=by unfold QG;simp only;split<;>exact⟨rfl,rfl⟩
 refine⟨by rw[hb.1,hb.2,ziz];omega,fun _ _ nm'=>?_⟩
 unfold QG
 simp only
 split
 ·rename_i hc
  simp only[Bool.and_eq_true]at hc
  have hn:=zeE.1 hc.2
  have hrf:=zla.1 (zDl hk hp nm)
  have hgf:=zla.1 hc.1
  refine zDS (zcn hk fr) ?_ ?_ nm'
  ·unfold LeG;rw[zuM];omega
  ·cases hz:ZK g
   ·rfl
   ·exfalso
    have:=zDX.1 hz
    rw[this]at hn
    simp only at hn
    have hnd:=qd.1 hrf.1
    have hnd2:=qd.1 hrf.2.1
    omega
 ·exact .refl _
theorem zE7 {me p v w f rest told:Int} (h:(zbq me p v w f rest told).2.2=0) (hz:(zbq me p v w f rest told).2.1≠0):(zbq me p v w f rest told).1.1=v+1:=by
 unfold zbq at h hz ⊢
 split
 ·rename_i h1;rw[if_pos h1]at h;exact absurd h h1
 ·rename_i h1
  rw[if_neg h1]at h hz
  split
  ·rename_i h2;rw[if_pos h2]at h;exact absurd h h2
  ·rename_i h2
   rw[if_neg h2]at hz
   simp only at hz ⊢
   have h3:(Yu v w f p me (((je me p v w f rest told).2.1 - (je me p v w f rest told).1).tdiv 2) me).2=0:=by simpa using h2
   generalize ((je me p v w f rest told).2.1 - (je me p v w f rest told).1).tdiv 2=am at h3 hz ⊢
   unfold Yu at h3 ⊢
   repeat' split at h3
   all_goals first|exact absurd h3 (by decide)|skip
   rename_i c1 c2 c4
   rw[if_neg c1,if_neg c2,if_neg hz,if_neg c4]
theorem zE6 {w:Wk} {fr:Int} {x:It} (hk:zy w.n) (hp:hasP fr w.n.hv=true):Nv w.n (Yp w fr x).n:=by
 obtain⟨h1,h2,h3⟩:=hk.find hp
 unfold Yp
 simp only
 split
 ·exact .refl _
 ·split
  ·exact .refl _
  ·rename_i hb
   split
   ·rename_i hz
    have hb':=Decidable.not_not.1 hb
    obtain⟨a1,a2,a3⟩:=zDF hb' hz
    have a4:=zE7 hb' hz
    generalize zbq w.n.id fr (findL x.c.nm (findH fr w.n.hv).1.lines).1 (findL x.c.nm (findH fr w.n.hv).1.lines).2.1 (findL x.c.nm (findH fr w.n.hv).1.lines).2.2 (Yt w.n.id (findT x.c.nm w.n.ch).1.inp w.n.hv x.c.nm fr).1 x.rs=B at*
    refine ztB hk fun _=>?_
    rw[zpX,h2]
    refine⟨by show latB _ _ (findH fr w.n.hv).1.boot (findH fr w.n.hv).1.life=false;rw[ziz];omega,fun _ _ nm=>?_⟩
    refine zDS (zcn hk fr) ?_ a3 nm
    unfold LeG;rw[zuM];omega
   ·exact .refl _
theorem zEX {w:Wk} {kd fr:Int} {x:It} (hk:zy w.n) (hp:hasP fr w.n.hv=true) (hx:itmB x=true):Nv w.n (yZ w kd fr x).n:=by
 have hn:=zeG (y8 hx)
 obtain⟨h1,h2,h3⟩:=hk.find hp
 have hkk:J4 w.n (Q4 w (QG w.n.id (findH fr w.n.hv).1 x.c.nm (x.ve,x.wt,x.fl)).1).n:=ze0 hk (zcq h1 hn) (by rw[zhj,h2];exact hp)
 have hq:Nv w.n (Q4 w (QG w.n.id (findH fr w.n.hv).1 x.c.nm (x.ve,x.wt,x.fl)).1).n:=zEN hk hp
 unfold yZ
 split
 ·exact .refl _
 ·split
  ·exact zFg (zcC (zrz _ _ _) _)
  ·split
   ·exact hq.trans (zE6 hkk.k (by rw[hkk.has];exact hp))
   ·exact hq
theorem zEm: ∀ {l:List It} {w:Wk} {kd fr:Int},zy w.n→hasP fr w.n.hv=true→(∀x∈l,itmB x=true)→Nv w.n (yo w kd fr l).n
 |[],w,_,_,_,_,_=>.refl _
 |x::l,w,kd,fr,hk,hp,hl=>by
  have hx:=hl x (List.mem_cons_self ..)
  have h1:=zb1 (kd:=kd) hk hp hx
  exact(zEX hk hp hx).trans (zEm (l:=l) (w:=yZ w kd fr x) h1.k (by rw[h1.has];exact hp) fun y hy=>hl y (List.mem_cons_of_mem _ hy))
theorem zEY {w:Wk} {kd fr bt lf:Int} (hk:zy w.n) (hf:nodeB fr=true) (hne:fr≠w.n.id) (hb:1≤bt∧bt≤1099511627776) (hl:0≤lf∧lf≤1099511627776):Nv w.n (qf w kd fr bt lf).n:=by
 have e:(qf w kd fr bt lf).n=w.n.hvS (qu w.n.hv (jJ w.n kd fr bt lf)):=by unfold qf;split<;>rfl
 have hp:=(zka (kd:=kd) hk hf hne hb hl).2
 rw[e]
 refine ztB hk fun hh=>?_
 rw[hp]at hh ⊢
 rcases zsI w.n kd fr bt lf with⟨h0,h1,h2,h3⟩|⟨h0,h1,h2,h3⟩
 ·have:latB bt lf (findH fr w.n.hv).1.boot (findH fr w.n.hv).1.life=true:=by
   simp only[Z4,Bool.or_eq_true,Bool.not_eq_true']at h0
   rcases h0 with h0|h0
   ·rw[hasP]at hh;rw[hh]at h0;cases h0
   ·exact h0
  rw[h1,h2]
  rw[zxH]at this
  exact⟨by rw[ziz];omega,fun e1 e2=>by omega⟩
 ·rw[h1,h2,h3];exact⟨by rw[ziz];omega,fun _ _ nm=>.refl _⟩
theorem zEJ {w:Wk} {p:qO} (h:zy w.n) (hp:Jg w.n p):Nv w.n (ZL w p).n:=by
 obtain⟨k1,k2,k3,k4⟩:=Jk (kd:=p.kd) h hp.fr hp.ne hp.bt hp.lf
 have n1:=zEY (kd:=p.kd) h hp.fr hp.ne hp.bt hp.lf
 have s1:=Yx (b:=false) k1 fun x hx=>y8 (hp.its x hx)
 have n2:=zDy (b:=false) k1 fun x hx=>y8 (hp.its x hx)
 have hh:hasP p.fr (qU (qf w p.kd p.fr p.bt p.lf) false p.its).1.n.hv=true:=by rw[s1.has];exact k2
 have s2:=JQ (kd:=p.kd) s1.k hh hp.its
 have n3:=zEm (kd:=p.kd) s1.k hh hp.its
 refine(n1.trans n2).trans (n3.trans ?_)
 unfold ZL YA
 simp only
 have e: ∀w3:Wk,(if p.kd=3 then J1 w3 p.fr p.bt p.lf else w3).n=w3.n:=fun w3=>by split<;>rfl
 have:=zCV (w:=if p.kd=3 then J1 (yo (qU (qf w p.kd p.fr p.bt p.lf) false p.its).1 p.kd p.fr p.its) p.fr p.bt p.lf else yo (qU (qf w p.kd p.fr p.bt p.lf) false p.its).1 p.kd p.fr p.its) (l:=List.filter (fun q=>(qU (qf w p.kd p.fr p.bt p.lf) false p.its).2||(Z4 (findH p.fr w.n.hv) p.bt p.lf&&decide (q=p.fr))) (qg (if p.kd=3 then J1 (yo (qU (qf w p.kd p.fr p.bt p.lf) false p.its).1 p.kd p.fr p.its) p.fr p.bt p.lf else yo (qU (qf w p.kd p.fr p.bt p.lf) false p.its).1 p.kd p.fr p.its).n.hv)) (by rw[e];exact s2.k) fun q hq=>yP.2 (List.mem_filter.1 hq).1
 rw[e]at this ⊢
 exact this
structure Fwd (a b:zQ):Prop where
 seen: ∀p,latB (getS a.seen p).bt (getS a.seen p).sq (getS b.seen p).bt (getS b.seen p).sq=false∧(getS a.seen p).tm≤(getS b.seen p).tm
 half: ∀p,hasP p a.hv=true→hasP p b.hv=true→latB (findH p a.hv).1.boot (findH p a.hv).1.life (findH p b.hv).1.boot (findH p b.hv).1.life=false∧
  ((findH p a.hv).1.boot=(findH p b.hv).1.boot→(findH p a.hv).1.life=(findH p b.hv).1.life→∀c∈recT a.ch,c∈recT b.ch→LeG (findL c.nm (findH p a.hv).1.lines) (findL c.nm (findH p b.hv).1.lines))
theorem zhs {a b:zQ} (hb:zy b) (h:Nv a b) (hs: ∀p,latB (getS a.seen p).bt (getS a.seen p).sq (getS b.seen p).bt (getS b.seen p).sq=false∧(getS a.seen p).tm≤(getS b.seen p).tm):Fwd a b:=by
 refine⟨hs,fun p hp _=>?_⟩
 obtain⟨h1,h2,h3⟩:=h.half p hp
 refine⟨h2,fun e1 e2 c hc hd=>?_⟩
 rcases h3 e1 e2 c.nm with g|g
 ·exact g
 ·obtain⟨d,hd2,f1,f2⟩:=g c hc rfl
  have:=zEg (zH.1 hb.ch).2.2.2.1 hd hd2 f1.symm
  subst this
  rw[zeE]at f2;omega
theorem zcr (n:zQ): ∀p,latB (getS n.seen p).bt (getS n.seen p).sq (getS n.seen p).bt (getS n.seen p).sq=false∧(getS n.seen p).tm≤(getS n.seen p).tm:=fun p=>⟨by rw[ziz];omega,Int.le_refl _⟩
theorem zAq {n:zQ} {p:qO} (h:zy n) (hp:Jg n p): ∀q,latB (getS n.seen q).bt (getS n.seen q).sq (getS (qW n p).seen q).bt (getS (qW n p).seen q).sq=false∧(getS n.seen q).tm≤(getS (qW n p).seen q).tm:=fun q=>by
 show latB _ _ (getS (qh n.seen (ZZ (getS n.seen p.fr) p.bt p.lf)) q).bt (getS (qh n.seen (ZZ (getS n.seen p.fr) p.bt p.lf)) q).sq=false∧_≤(getS (qh n.seen (ZZ (getS n.seen p.fr) p.bt p.lf)) q).tm
 by_cases e:q=p.fr
 ·subst e
  rw[zzV h hp];unfold ZZ;split
  ·rename_i hl;rw[zxH]at hl;exact⟨by rw[ziz];simp only;omega,Int.le_refl _⟩
  ·exact zcr n _
 ·rw[YL h.srtS (by rw[zji,Zk];exact e)];exact zcr n q
theorem zB5 {n:zQ} {p:Int} (h:zy n) (hp:nodeB p=true) (hne:p≠n.id):Fwd n (yU n p):=by
 have ho:=zeB.1 (zqs h.seen hp hne)
 have hid:(QL (getS n.seen p)).id=p:=Zk n.seen p
 have hso:=zba h.seen p
 simp only[zdg]at hso
 have ew:wr ((getS n.seen p).tm+1)=(getS n.seen p).tm+1:=yj (by omega)
 refine⟨fun q=>?_,fun q hq hq2=>?_⟩
 ·show latB _ _ (getS (qh n.seen (QL (getS n.seen p))) q).bt (getS (qh n.seen (QL (getS n.seen p))) q).sq=false∧_≤(getS (qh n.seen (QL (getS n.seen p))) q).tm
  by_cases e:q=p
  ·subst e
   have:=zjb (s:=QL (getS n.seen q)) h.srtS (fun e=>(ho.2.2.2.2.2.2.2.2 e.1).2 e.2)
   rw[hid]at this
   rw[this]
   refine⟨by show latB _ _ (getS n.seen q).bt (getS n.seen q).sq=false;rw[ziz];omega,?_⟩
   show _≤(if wr ((getS n.seen q).tm+1)≤1099511627776 then wr ((getS n.seen q).tm+1)else 1099511627776)
   rw[ew];split<;>omega
  ·rw[YL h.srtS (by rw[hid];exact e)];exact zcr n q
 ·have hqp:q≠p:=by
   rintro rfl
   have:hasP q (ZM q false n.hv).1=true:=hq2
   obtain⟨x,hx,e⟩:=List.mem_map.1 (yP.1 this)
   exact(zcc.1 hx).2 e
  have e:findH q (yU n p).hv=findH q n.hv:=zAp h.srt hqp
  rw[e];exact⟨by rw[ziz];omega,fun _ _ c _ _=>.refl _⟩
theorem Fwd.pre {a b c:zQ} (h:Fwd b c) (hs: ∀p,latB (getS a.seen p).bt (getS a.seen p).sq (getS b.seen p).bt (getS b.seen p).sq=false∧(getS a.seen p).tm≤(getS b.seen p).tm) (hh:a.hv=b.hv) (hc:recT a.ch=recT b.ch):Fwd a c:=by
 refine⟨fun p=>?_,by rw[hh,hc];exact h.half⟩
 have h1:=hs p;have h2:=h.seen p
 rw[ziz]at*;omega
theorem zjK {a b:zQ} (hh:a.hv=b.hv) (hc:recT a.ch=recT b.ch):Nv a b:=by
 refine⟨fun p hp=>?_,fun c h=>⟨c,by rw[←hc];exact h,rfl,.inl rfl⟩⟩
 rw[←hh];exact⟨hp,by rw[ziz];omega,fun _ _ nm=>.inl (.refl _)⟩
theorem zEx {n:zQ} (p:qO) (h:zy n):Fwd n (jp n p).n:=by
 have hz:Fwd n n:=zhs h (.refl n) (zcr n)
 unfold jp
 simp only
 split
 ·exact hz
 ·rename_i hc
  simp only[Bool.or_eq_true,Bool.not_eq_true',decide_eq_true_eq,decide_eq_false_iff_not,not_or,Bool.not_eq_false,ne_eq,Decidable.not_not]at hc
  have hp:=Qc hc.1.1 hc.1.2
  repeat' split
  ·exact hz
  ·have ks:=h.see hp
   have hp':Jg (qW n p) p:=⟨hp.fr,hp.ne,hp.bt,hp.lf,hp.its⟩
   unfold Q9
   split
   ·have h1:=zs4 (w:=⟨qW n p,[],[]⟩) ks hp'
    have h2:=zEJ (w:=⟨qW n p,[],[]⟩) ks hp'
    refine zhs h1.1 ((zjK rfl rfl:Nv n (qW n p)).trans h2) fun q=>?_
    rw[h1.2.2];exact zAq h hp q
   ·split
    ·exact(zB5 ks hp'.fr hp'.ne).pre (zAq h hp) rfl rfl
    ·exact zhs ks (zjK rfl rfl) (zAq h hp)
  ·exact hz
theorem zDQ {a b:zQ} (h:b.seen=a.seen): ∀p,latB (getS a.seen p).bt (getS a.seen p).sq (getS b.seen p).bt (getS b.seen p).sq=false∧(getS a.seen p).tm≤(getS b.seen p).tm:=by rw[h];exact zcr a
theorem zEy {n:zQ} (h:zy n):Fwd n (tickW n).n:=by
 have hw:=Qa h.want
 have hm:zy ((tickN n).tnS (yR n.want n.tn).2.1):=h.tickN.tnS hw.1
 have hr:recT n.ch=recT (n.ch.map (Za n.id)):=(zlN fun x _=>zuw _ x).symm
 unfold tickW
 simp only
 split
 ·exact zhs h.tickN (zjK rfl hr) (zcr n)
 ·rename_i hv
  have hmem:=hw.2 (by simpa using hv)
  have hnd:=(zU.1 h.want).2.2.2.2.1 _ hmem
  split
  ·exact zhs hm (zjK rfl hr) (zcr n)
  ·rename_i hf
   have hp:hasP (yR n.want n.tn).1 n.hv=true:=by simpa[hasP]using hf
   obtain⟨h1,h2,h3⟩:=h.find hp
   split
   ·rename_i ht
    rcases Zx h1 with⟨_,g1,g2,g3,g4,g5,_⟩|g
    ·have hk:zy (((tickN n).tnS (yR n.want n.tn).2.1).hvS (qu n.hv (yO (findH (yR n.want n.tn).1 n.hv).1).1)):=hm.keep g1
     have hp2:hasP (yR n.want n.tn).1 (qu n.hv (yO (findH (yR n.want n.tn).1 n.hv).1).1)=true:=Zh.2 (.inl (by rw[g2,h2]))
     have n1:Nv ((tickN n).tnS (yR n.want n.tn).2.1) (((tickN n).tnS (yR n.want n.tn).2.1).hvS (qu n.hv (yO (findH (yR n.want n.tn).1 n.hv).1).1)):=ztB hm fun _=>by
      rw[g2,h2]
      show latB (findH (yR n.want n.tn).1 n.hv).1.boot (findH (yR n.want n.tn).1 n.hv).1.life _ _=false∧_
      rw[g3,g4]
      refine⟨by rw[ziz];omega,fun _ _ nm=>?_⟩
      show LeG (findL nm (findH (yR n.want n.tn).1 n.hv).1.lines) _
      rw[g5];exact .refl _
     have n2:=zEB hk hp2
     have s2:=jY (w:=⟨_,[],[]⟩) hk hp2
     exact zhs s2.k (((zjK rfl hr:Nv n ((tickN n).tnS (yR n.want n.tn).2.1)).trans n1).trans n2) (zDQ s2.seen)
    ·rw[g]at ht;cases ht
   ·exact(zB5 hm hnd.1 hnd.2).pre (zcr n) rfl hr
theorem zEu {n:zQ} {v:Int} (h:zy n):Fwd n (jz n v).1.n:=by
 have hm:zy ((n.waS (ZI n.want n.tn v).1).tnS (ZI n.want n.tn v).2.1):=⟨h.bt,h.tk,Y2 h.want,h.seen,h.hv,h.ch⟩
 unfold jz
 simp only
 split
 ·exact zhs h (.refl n) (zcr n)
 ·split
  ·rename_i hf
   have hp:hasP v n.hv=true:=hf
   obtain⟨r1,r2,_⟩:=Zi h hp
   exact(zB5 hm r1 r2).pre (zcr n) rfl rfl
  ·exact zhs hm (zjK rfl rfl) (zcr n)
theorem zDw: ∀ {l:List Tt} {w:Wk} {nm:ByteArray},zy w.n→(madeL w nm l).n=w.n∨∃m,(madeL w nm l).n=w.n.hvS m∧((∀q nm',nm'≠nm→findL nm' (findH q m).1.lines=findL nm' (findH q w.n.hv).1.lines)∧∀q,(findH q m).1.boot=(findH q w.n.hv).1.boot∧(findH q m).1.life=(findH q w.n.hv).1.life)
 |[],w,_,_=>.inl rfl
 | x ::l,w,nm,hk=>by
  rw[madeL]
  split
  ·rename_i hq
   have e:=zf3 hq
   have hb: ∀p (l:List Hf),(findH p (Qy l x.c.nm)).1.boot=(findH p l).1.boot∧(findH p (Qy l x.c.nm)).1.life=(findH p l).1.life:=by
    intro p l
    induction l with
    |nil=>exact⟨rfl,rfl⟩
    |cons y l ih=>
     show(findH p (zaL y x.c.nm noG::Qy l x.c.nm)).1.boot=_∧(findH p (zaL y x.c.nm noG::Qy l x.c.nm)).1.life=_
     rw[Yo,Yo]
     show(if y.peer=p then _ else _:Hf×Bool).1.boot=_∧(if y.peer=p then _ else _:Hf×Bool).1.life=_
     split
     ·exact⟨rfl,rfl⟩
     ·exact ih
   have hl: ∀q nm',nm'≠nm→findL nm' (findH q (Qy w.n.hv x.c.nm)).1.lines=findL nm' (findH q w.n.hv).1.lines:=fun q nm' hne=>by
    rw[zmC,zej (zcn hk q) (by rw[e];exact hne)]
   have k1:zy (jA w x.c).n:=(zfN hk).k
   right
   rcases zDw (l:=l) (w:=jA w x.c) (nm:=nm) k1 with h|⟨m,h,h1,h2⟩
   ·exact⟨_,h,hl,fun q=>hb q _⟩
   ·refine⟨m,h,fun q nm' hne=>?_,fun q=>?_⟩
    ·rw[h1 q nm' hne];exact hl q nm' hne
    ·rw[(h2 q).1,(h2 q).2];exact hb q _
  ·exact zDw hk
theorem zq2 {n:zQ} {nm:ByteArray} {r:List Tt×Int} {c:Ch} (h:zy n) (hr:fitsT n.id r.1=true) (hc:r.2=0→recT r.1=jX false (recT n.ch) c∧c.nm=nm∧∀d∈recT n.ch,d.nm=c.nm→newR c.ep c.ma d.ep d.ma=true):Fwd n (ZG n nm r).1.n:=by
 unfold ZG
 split
 ·exact zhs h (.refl n) (zcr n)
 ·rename_i h0
  obtain⟨e1,e2,e3⟩:=hc (by simpa using h0)
  have k1:zy (n.chS r.1):=h.chS hr
  have s2:=zan (w:=⟨n.chS r.1,[],[]⟩) (nm:=nm) (l:=r.1) k1
  have n3:=zCV (w:=madeL ⟨n.chS r.1,[],[]⟩ nm r.1) (l:=qg (madeL ⟨n.chS r.1,[],[]⟩ nm r.1).n.hv) s2.k fun p hp=>yP.2 hp
  have s3:=zfW (w:=madeL ⟨n.chS r.1,[],[]⟩ nm r.1) (l:=qg (madeL ⟨n.chS r.1,[],[]⟩ nm r.1).n.hv) s2.k fun p hp=>yP.2 hp
  have hin:c∈recT r.1:=by rw[e1];exact zhe _
  have up: ∀d∈recT n.ch,∃y∈recT r.1,y.nm=d.nm∧(y=d∨newR y.ep y.ma d.ep d.ma=true):=fun d hd=>by
   by_cases e:d.nm=c.nm
   ·exact⟨c,hin,e.symm,.inr (e3 d hd e)⟩
   ·exact⟨d,by rw[e1];exact zfY hd e,rfl,.inl rfl⟩
  have n2:Nv n (madeL ⟨n.chS r.1,[],[]⟩ nm r.1).n:=by
   have upp:Upp nm (recT n.ch) (recT r.1):=fun d hd hn=>⟨c,hin,e2,e3 d hd (hn.trans e2.symm)⟩
   rcases zDw (l:=r.1) (w:=⟨n.chS r.1,[],[]⟩) (nm:=nm) k1 with e|⟨m,e,f1,f2⟩
   ·rw[e]
    exact⟨fun p hp=>⟨hp,by show latB _ _ (findH p n.hv).1.boot (findH p n.hv).1.life=false;rw[ziz];omega,fun _ _ nm'=>.inl (.refl _)⟩,up⟩
   ·have hh: ∀p,hasP p m=hasP p n.hv:=fun p=>by have:=s2.has p;rw[e]at this;exact this
    rw[e]
    refine⟨fun p hp=>⟨by rw[←hp];exact hh p,?_,fun _ _ nm'=>?_⟩,up⟩
    ·show latB _ _ (findH p m).1.boot (findH p m).1.life=false
     rw[(f2 p).1,(f2 p).2];show latB _ _ (findH p n.hv).1.boot (findH p n.hv).1.life=false;rw[ziz];omega
    ·by_cases en:nm'=nm
     ·right;rw[en];exact upp
     ·left;show LeG _ (findL nm' (findH p m).1.lines);rw[f1 p nm' en];exact .refl _
  exact zhs s3.k (n2.trans n3) (zDQ (s3.seen.trans s2.seen))
theorem zDo {m:List Ch} {d:Ch} {nm:ByteArray} (hs:Qb m) (hm:d∈m) (e:d.nm=nm):z5 m nm=(d,true):=by
 induction m with
 |nil=>cases hm
 | cons x m ih=>
  have hs':=List.pairwise_cons.1 hs
  rw[jF]
  rcases List.mem_cons.1 hm with rfl|hm
  ·rw[if_pos (by rw[e];simp)]
  ·have:=hs'.1 d hm
   rw[if_neg (by rw[←e,ztq this];simp)]
   exact ih hs'.2 hm
theorem zEl {a:Int} {l:List Tt} {kd sc:Int} {nm:ByteArray} (hf:fitsT a l=true) (h:(zdk l a nm kd sc).2=0): ∃c:Ch,recT (zdk l a nm kd sc).1=jX false (recT l) c∧c.nm=nm∧∀d∈recT l,d.nm=c.nm→newR c.ep c.ma d.ep d.ma=true:=by
 have hs:=(zH.1 hf).2.2.2.1
 unfold zdk at h ⊢
 split at h
 ·rename_i hc
  rw[if_pos hc]
  simp only[zcA]
  unfold yD at hc ⊢
  simp only at hc ⊢
  repeat' split at hc
  all_goals first|(exfalso;simp at hc;done)|skip
  refine⟨⟨nm,wr ((z5 (recT l) nm).1.ep+1),a,true,kd,sc⟩,by(repeat' split)<;>first|rfl|contradiction,rfl,fun d hd e=>?_⟩
  have hfd:=zDo hs hd e
  have hep:=zk2 hf d hd
  simp only[hfd]
  rw[zlU (by omega),zeE];omega
 ·rename_i hc;exact absurd h hc
theorem zEv {a:Int} {l:List Tt} {nm:ByteArray} (hf:fitsT a l=true) (h:(zdt l a nm).2=0): ∃c:Ch,recT (zdt l a nm).1=jX false (recT l) c∧c.nm=nm∧∀d∈recT l,d.nm=c.nm→newR c.ep c.ma d.ep d.ma=true:=by
 have hs:=(zH.1 hf).2.2.2.1
 unfold zdt at h ⊢
 split at h
 ·rename_i hc
  rw[if_pos hc]
  simp only[zcA]
  unfold yF at hc ⊢
  simp only at hc ⊢
  repeat' split at hc
  all_goals first|(exfalso;simp at hc;done)|skip
  rename_i h1 h2
  have hnm:(z5 (recT l) nm).1.nm=nm:=by
   simp only[Bool.or_eq_true,Bool.not_eq_true',not_or,Bool.not_eq_false]at h1
   rcases hf:z5 (recT l) nm with⟨o,b⟩
   have hb:b=true:=by have:=h1.1;rw[hf]at this;exact this
   subst hb
   exact(Zu hf).2
  refine⟨⟨(z5 (recT l) nm).1.nm,wr ((z5 (recT l) nm).1.ep+1),a,false,(z5 (recT l) nm).1.kd,(z5 (recT l) nm).1.sc⟩,by(repeat' split)<;>first|rfl|contradiction,hnm,fun d hd e=>?_⟩
  have hfd:=zDo hs hd (e.trans hnm)
  have hep:=zk2 hf d hd
  simp only[hfd]
  rw[zlU (by omega),zeE];omega
 ·rename_i hc;exact absurd h hc
theorem zEI {n:zQ} {nm:ByteArray} {kd sc:Int} (h:zy n):Fwd n (zi3 n nm kd sc).1.n:=by
 by_cases h0:(zdk n.ch n.id nm kd sc).2=0
 ·obtain⟨c,e⟩:=zEl h.ch h0
  exact zq2 (c:=c) h (jj h.ch) fun _=>e
 ·exact zq2 (c:=zdf) h (jj h.ch) fun e=>absurd e h0
theorem zEQ {n:zQ} {nm:ByteArray} (h:zy n):Fwd n (zkj n nm).1.n:=by
 by_cases h0:(zdt n.ch n.id nm).2=0
 ·obtain⟨c,e⟩:=zEv h.ch h0
  exact zq2 (c:=c) h (jl h.ch) fun _=>e
 ·exact zq2 (c:=zdf) h (jl h.ch) fun e=>absurd e h0
structure zCi (n:zQ) (x:qO):Prop where
 has:hasP x.to n.hv=true
 pend:(findH x.to n.hv).1.pend=true
 boot:x.ec=(findH x.to n.hv).1.boot
 life:x.el=(findH x.to n.hv).1.life
def askd (l:List qO):List Int:=(l.filter fun x=>decide (x.kd=3)).map (·.to)
structure zC2 (w:Wk):Prop where
 one: ∀x∈w.ps,x.kd=3→zCi w.n x
 nd:(askd w.ps).Nodup
theorem zev {w:Wk} (h: ∀x∈w.ps,x.kd≠3):zC2 w:=by
 refine⟨fun x hx e=>absurd e (h x hx),?_⟩
 have:w.ps.filter (fun x=>decide (x.kd=3))=[]:=List.filter_eq_nil_iff.2 fun x hx=>by simpa using h x hx
 unfold askd;rw[this];exact List.nodup_nil
theorem zBZ (l m:List qO):askd (l++m)=askd l++askd m:=by unfold askd;rw[List.filter_append,List.map_append]
theorem zDh {w:Wk} {p:Int} (hk:zy w.n) (hp:hasP p w.n.hv=true) (h:zC2 w) (hn:p∉askd w.ps):zC2 (qP w p)∧askd (qP w p).ps=askd w.ps++[p]:=by
 have h2:=(hk.find hp).2.1
 have e2:(Yj (findH p w.n.hv).1).peer=p:=h2
 have ea:askd (qP w p).ps=askd w.ps++[p]:=zBZ _ _
 refine⟨⟨fun x hx e=>?_,?_⟩,ea⟩
 ·rcases List.mem_append.1 hx with hx1|hx
  ·have h1:=h.one x hx1 e
   have hne:x.to≠p:=fun eq=>hn (List.mem_map.2 ⟨x,List.mem_filter.2 ⟨hx1,by simpa using e⟩,eq⟩)
   have ef:findH x.to (qP w p).n.hv=findH x.to w.n.hv:=by
    show findH x.to (qu w.n.hv (Yj (findH p w.n.hv).1))=_
    rw[zhQ hk.srt,if_neg (by rw[e2];exact hne)]
   exact⟨by rw[hasP,ef];exact h1.has,by rw[ef];exact h1.pend,by rw[ef];exact h1.boot,by rw[ef];exact h1.life⟩
  ·rw[List.mem_singleton]at hx;subst hx
   have ef:findH p (qP w p).n.hv=(Yj (findH p w.n.hv).1,true):=by
    show findH p (qu w.n.hv (Yj (findH p w.n.hv).1))=_
    rw[zhQ hk.srt,if_pos e2.symm]
   exact⟨by show hasP p _=true;rw[hasP,ef],by show(findH p _).1.pend=true;rw[ef];rfl,by show _=(findH p _).1.boot;rw[ef];rfl,by show _=(findH p _).1.life;rw[ef];rfl⟩
 ·rw[ea,List.nodup_append]
  exact⟨h.nd,by simp,by intro a ha b hb;rw[List.mem_singleton]at hb;subst hb;rintro rfl;exact hn ha⟩
theorem zwv: ∀ {l:List Int} {w:Wk},zy w.n→(∀p∈l,hasP p w.n.hv=true)→zC2 w→l.Nodup→(∀p∈l,p∉askd w.ps)→zC2 (yg w l)
 |[],w,_,_,h,_,_=>h
 |p::l,w,hk,hl,h,hn,hd=>by
  have hn':=List.nodup_cons.1 hn
  have hp:=hl p (List.mem_cons_self ..)
  have h1:=jY hk hp
  obtain⟨a1,a2⟩:=zDh hk hp h (hd p (List.mem_cons_self ..))
  refine zwv (l:=l) (w:=qP w p) h1.k (fun q hq=>by rw[h1.has q];exact hl q (List.mem_cons_of_mem _ hq)) a1 hn'.2 fun q hq=>?_
  rw[a2,List.mem_append,List.mem_singleton,not_or]
  exact⟨hd q (List.mem_cons_of_mem _ hq),by rintro rfl;exact hn'.1 hq⟩
theorem zDT {l:List qO} (h: ∀x∈l,x.kd≠3):askd l=[]:=by
 have:l.filter (fun x=>decide (x.kd=3))=[]:=List.filter_eq_nil_iff.2 fun x hx=>by simpa using h x hx
 unfold askd;rw[this];rfl
theorem zD2 {w:Wk} {p:qO} (h:zy w.n) (hp:Jg w.n p) (h0:w.ps=[]):zC2 (ZL w p):=by
 obtain⟨k1,k2,k3,k4⟩:=Jk (kd:=p.kd) h hp.fr hp.ne hp.bt hp.lf
 have e0:(qf w p.kd p.fr p.bt p.lf).ps=w.ps:=by unfold qf;split<;>rfl
 have s1:=Yx (b:=false) k1 fun x hx=>y8 (hp.its x hx)
 have hh:hasP p.fr (qU (qf w p.kd p.fr p.bt p.lf) false p.its).1.n.hv=true:=by rw[s1.has];exact k2
 have s2:=JQ (kd:=p.kd) s1.k hh hp.its
 have e1:=zc4 (l:=p.its) (w:=qf w p.kd p.fr p.bt p.lf) (b:=false)
 have e2:=zfl (l:=p.its) (w:=(qU (qf w p.kd p.fr p.bt p.lf) false p.its).1) (kd:=p.kd) (fr:=p.fr)
 have e3:(yo (qU (qf w p.kd p.fr p.bt p.lf) false p.its).1 p.kd p.fr p.its).ps=[]:=by rw[e2.1,e1.1,e0,h0]
 unfold ZL YA
 simp only
 have e: ∀w3:Wk,(if p.kd=3 then J1 w3 p.fr p.bt p.lf else w3).n=w3.n:=fun w3=>by split<;>rfl
 have hno: ∀x∈(if p.kd=3 then J1 (yo (qU (qf w p.kd p.fr p.bt p.lf) false p.its).1 p.kd p.fr p.its) p.fr p.bt p.lf else yo (qU (qf w p.kd p.fr p.bt p.lf) false p.its).1 p.kd p.fr p.its).ps,x.kd≠3:=fun x hx=>by
  split at hx
  ·rw[show(J1 (yo (qU (qf w p.kd p.fr p.bt p.lf) false p.its).1 p.kd p.fr p.its) p.fr p.bt p.lf).ps=(yo (qU (qf w p.kd p.fr p.bt p.lf) false p.its).1 p.kd p.fr p.its).ps++[_]from rfl,e3]at hx
   rw[List.nil_append,List.mem_singleton]at hx;subst hx;simp[jS]
  ·rw[e3]at hx;cases hx
 refine zwv (by rw[e];exact s2.k) (fun q hq=>yP.2 (List.mem_filter.1 hq).1) (zev hno) ?_ ?_
 ·have:(qg (yo (qU (qf w p.kd p.fr p.bt p.lf) false p.its).1 p.kd p.fr p.its).n.hv).Nodup:=zmc s2.k.srt
  rw[e];exact this.sublist List.filter_sublist
 ·intro q _;rw[zDT hno];simp
theorem zDV {n:zQ} (p:qO) (h:zy n):zC2 (jp n p):=by
 unfold jp
 simp only
 split
 ·exact zev (by intro x hx;cases hx)
 ·rename_i hc
  simp only[Bool.or_eq_true,Bool.not_eq_true',decide_eq_true_eq,decide_eq_false_iff_not,not_or,Bool.not_eq_false,ne_eq,Decidable.not_not]at hc
  have hp:=Qc hc.1.1 hc.1.2
  repeat' split
  ·exact zev (by intro x hx;rw[List.mem_singleton]at hx;subst hx;simp)
  ·unfold Q9
   repeat' split
   ·exact zD2 (w:=⟨qW n p,[],[]⟩) (h.see hp) ⟨hp.fr,hp.ne,hp.bt,hp.lf,hp.its⟩ rfl
   ·exact zev (by intro x hx;cases hx)
   ·exact zev (by intro x hx;cases hx)
  ·exact zev (by intro x hx;cases hx)
theorem zD6 {n:zQ} (h:zy n):zC2 (tickW n):=by
 have hw:=Qa h.want
 have hm:zy ((tickN n).tnS (yR n.want n.tn).2.1):=h.tickN.tnS hw.1
 unfold tickW
 simp only
 split
 ·exact zev (by intro x hx;cases hx)
 ·split
  ·exact zev (by intro x hx;rw[List.mem_singleton]at hx;subst hx;simp[jH])
  ·rename_i hf
   have hp:hasP (yR n.want n.tn).1 n.hv=true:=by simpa[hasP]using hf
   obtain⟨h1,h2,h3⟩:=h.find hp
   split
   ·rename_i ht
    rcases Zx h1 with⟨_,g1,g2,_⟩|g
    ·have hk:zy (((tickN n).tnS (yR n.want n.tn).2.1).hvS (qu n.hv (yO (findH (yR n.want n.tn).1 n.hv).1).1)):=hm.keep g1
     exact(zDh (w:=⟨_,[],[]⟩) hk (Zh.2 (.inl (by rw[g2,h2]))) (zev (by intro x hx;cases hx)) (by simp[askd])).1
    ·rw[g]at ht;cases ht
   ·exact zev (by intro x hx;rw[List.mem_singleton]at hx;subst hx;simp[jH])
theorem zDZ {n:zQ} {v:Int}:zC2 (jz n v).1:=by
 unfold jz
 simp only
 split
 ·exact zev (by intro x hx;cases hx)
 ·split
  ·exact zev (by intro x hx;rw[show(zbh ⟨(n.waS (ZI n.want n.tn v).1).tnS (ZI n.want n.tn v).2.1,[jS ((n.waS (ZI n.want n.tn v).1).tnS (ZI n.want n.tn v).2.1) 5 v (findH v n.hv).1.boot (findH v n.hv).1.life []],[]⟩ v 3).ps=[_]from rfl,List.mem_singleton]at hx;subst hx;simp[jS])
  ·exact zev (by intro x hx;cases hx)
theorem zCP {n:zQ} {nm:ByteArray} {r:List Tt×Int} (h:zy n) (hr:fitsT n.id r.1=true):zC2 (ZG n nm r).1:=by
 unfold ZG
 split
 ·exact zev (by intro x hx;cases hx)
 ·have h1:zy (n.chS r.1):=h.chS hr
  have h2:=zan (w:=⟨n.chS r.1,[],[]⟩) (nm:=nm) (l:=r.1) h1
  have h3:=zjM (l:=r.1) (w:=⟨n.chS r.1,[],[]⟩) (nm:=nm)
  have hno: ∀x∈(madeL ⟨n.chS r.1,[],[]⟩ nm r.1).ps,x.kd≠3:=by rw[h3.1];intro x hx;cases hx
  exact zwv h2.k (fun p hp=>yP.2 hp) (zev hno) (zmc h2.k.srt) fun q _=>by rw[zDT hno];simp
theorem zEV (n:zQ) (v:Int):(jz n v).1.n.bt=n.bt:=by
 unfold jz;simp only
 split
 ·rfl
 ·split<;>rfl
theorem zFG {n:zQ} (c:Cal) (h:zy n):Fwd n (Ye n c).1.n∧zC2 (Ye n c).1∧(Ye n c).1.n.id=n.id∧(Ye n c).1.n.bt=n.bt:=by
 have no: ∀ {n:zQ} {es:List ZF},zC2 ⟨n,[],es⟩:=zev (by intro x hx;cases hx)
 unfold Ye
 split
 ·exact⟨zhs (zsU h) (zjK rfl rfl) (zcr n),no,rfl,rfl⟩
 split
 ·exact⟨zEu h,zDZ,zvz _ _,zEV _ _⟩
 split
 ·exact⟨zEI h,zCP h (jj h.ch),(zpA h).2.id,(zpA h).2.bt⟩
 split
 ·exact⟨zEQ h,zCP h (jl h.ch),(zpC h).2.id,(zpC h).2.bt⟩
 split
 ·exact⟨zhs (zt9 h).1 (zjK rfl (zu6 _ _ _ _).symm) (zcr n),no,rfl,rfl⟩
 split
 ·exact⟨zEy h,zD6 h,(zl3 h).2.id,(zl3 h).2.bt⟩
 split
 ·exact⟨zEx c.p h,zDV c.p h,(zk3 c.p h).2.id,(zk3 c.p h).2.bt⟩
 ·exact⟨zhs h (.refl n) (zcr n),no,rfl,rfl⟩
section
section
variable {a b bA bB sc:Int}
structure Two (a b bA bB sc:Int):Prop where
 na:nodeB a=true
 nb:nodeB b=true
 ne:a≠b
 ha:1≤bA∧bA≤1099511627776
 hb:1≤bB∧bB≤1099511627776
 hs:1≤sc∧sc≤1048576
def emB:ByteArray:=⟨#[109]⟩
def chM (a sc:Int):Ch:=⟨emB,1,a,true,1,sc⟩
def m0 (a b bA sc:Int):zQ:=⟨a,bA,0,[b],0,[],[],[⟨chM a sc,false,0,noEx,noEx⟩]⟩
def n0 (a b bB:Int):zQ:=⟨b,bB,0,[a],0,[],[],[]⟩
def amZ (X Y:Int):Int:=(X - Y).tdiv 2
def g2 (a b X Y:Int):jQ:=if amZ X Y=0 then noG else(1,b,zaC 0 a b (amZ X Y))
end
end
end Go.Proofs.YtbcbnfiedgnfpaaGreat
namespace Go.Proofs.YtbcbnfiedgnfpaaGreat
open Go.Dl
attribute [local irreducible] DW yE zY zA zu zky
attribute [local push_cast] zZ qF qC zN zM zD zE qH qE qz Go.Dl.qY yT qy List.mem_cons List.not_mem_nil or_false forall_eq false_implies implies_true
def yG (p:qO):List F:=[eI p.kd,eI p.fr,eI p.to,eI p.bt,eI p.lf,eI p.ec,eI p.el,.l 19 (p.its.map yS)]
def zeq (e:ZF):List F:=[eI e.kd,eI e.pr,eS e.nm,eI e.num]
attribute [push_cast] yG zeq
attribute [simp] yG zeq
abbrev cPk (p:qO):List C:=[.f (eI p.kd),.f (eI p.fr),.f (eI p.to),.f (eI p.bt),.f (eI p.lf),.f (eI p.ec),.f (eI p.el),.f (.l 19 (p.its.map yS))]
abbrev cEv (e:ZF):List C:=[.f (eI e.kd),.f (eI e.pr),.f (eS e.nm),.f (eI e.num)]
abbrev cNd (n:zQ):List C:=[.f (eI n.id),.f (eI n.bt),.f (eI n.tk),.f (.l 1 (n.want.map Z3)),.f (eI n.tn),.f (.l 4 (n.seen.map QD)),.f (.l 6 (n.hv.map jI)),.f (.l 16 (n.ch.map QO))]
abbrev ZJ (p:qO):V:=.agg (cPk p)
abbrev gEv (e:ZF):V:=.agg (cEv e)
abbrev jv (n:zQ):V:=.agg (cNd n)
abbrev gPs (l:List qO):V:=.c (.f (.l 8 (l.map yG)))
abbrev zxT (l:List ZF):V:=.c (.f (.l 4 (l.map zeq)))
def PkOk (p:qO):Prop:=p.its.length≤1048576∧∀x∈p.its,x.c.nm.size≤1048576
theorem zmG (p q:qO) (hp:p.its.length≤1048576):zu Tryz.prog 35 [ZJ p,ZJ q] (gB (eqP p q)):=by
 obtain⟨kd,fr,to,bt,lf,ec,el,l⟩:=p
 obtain⟨kd',fr',to',bt',lf',ec',el',m⟩:=q
 simp only at hp
 refine enx [.tmp 4] Tryz.func35 fun X w0=>?_
 repeat'(first|(refine spl ?_ ?_<;>(intro hb;refine ne ?_))|(refine zl hR ?_;clear hR)|refine s1 ?_|exact True.intro|(have hlm:=zat hb;((with_reducible refine zO ?_);refine frx (ι:=Unit) (l.length) (fun k _=>St.ofA [(2,.loc 2 0),(3,.loc 3 0),(5,gI k)] [(2,30,cPk ⟨kd,fr,to,bt,lf,ec,el,l⟩),(3,30,cPk ⟨kd',fr',to',bt',lf',ec',el',m⟩)] []) (fun k _=>ziJ l m=ziJ (l.drop k) (m.drop k)) () ?_ (fun k x hJ hk R hR=>?_)))|(have hkm:k<m.length:=(by omega);refine rdb [] ?_)|refine rdb [] ?_|refine fnx (()) ?_ ?_|(refine s2 ?_;try with_reducible intro R hR)|fail)
 all_goals(refine gz ?_;grind[eqP,zwH,ztI,zdd,zlD,zP])
abbrev zgT:F:=.s (.slice none 0 0)
theorem zaN (p b l:Int) (ls:List Ln) (pe:Bool) (m:Int) (hl:ls.length≤1048576):zA Tryz.prog 261 [Yb p b l ls pe m] [] [] (.loc 9 0) [(9,278,cH ⟨p,b,l,ls,pe,m⟩++[.f zgT])] []:=by
 refine emx [.tmp 2] Tryz.func261 fun XX X G w0=>?_
 repeat'(first|(refine spl ?_ ?_<;>(intro hb;refine ne ?_))|(refine zl hR ?_;clear hR)|refine s1 ?_|exact True.intro|refine cal (zkn _ hl) ?_|(refine s2 ?_;try with_reducible intro R hR)|fail)
 all_goals exact fmx []
theorem zxW (p b l:Int) (ls:List Ln) (pe:Bool) (m:Int):zA Tryz.prog 325 [.loc 0 0] [(0,278,cH ⟨p,b,l,ls,pe,m⟩++[.f zgT])] [] (.tup []) [(0,278,cH ⟨p,b,l,ls,true,m⟩++[.f zgT])] []:=by
 refine emx [] Tryz.func325 fun XX X G w0=>?_
 repeat'(first|(refine spl ?_ ?_<;>(intro hb;refine ne ?_))|(refine zl hR ?_;clear hR)|refine s1 ?_|exact True.intro|fail|(refine s2 ?_;try with_reducible intro R hR)|fail)
 all_goals exact fmx []
theorem zxQ (p b l:Int) (ls:List Ln) (pe:Bool) (m:Int):zA Tryz.prog 328 [.loc 0 0] [(0,278,cH ⟨p,b,l,ls,pe,m⟩++[.f zgT])] [] (.tup []) [(0,278,cH ⟨p,b,l,ls,pe,0⟩++[.f zgT])] []:=by
 refine emx [] Tryz.func328 fun XX X G w0=>?_
 repeat'(first|(refine spl ?_ ?_<;>(intro hb;refine ne ?_))|(refine zl hR ?_;clear hR)|refine s1 ?_|exact True.intro|fail|(refine s2 ?_;try with_reducible intro R hR)|fail)
 all_goals exact fmx []
theorem zn1 (p b l:Int) (ls:List Ln) (pe:Bool) (m:Int):zA Tryz.prog 329 [.loc 0 0] [(0,278,cH ⟨p,b,l,ls,pe,m⟩++[.f zgT])] [] (.tup []) [(0,278,cH ⟨p,b,l,ls,false,0⟩++[.f zgT])] []:=by
 refine emx [] Tryz.func329 fun XX X G w0=>?_
 repeat'(first|(refine spl ?_ ?_<;>(intro hb;refine ne ?_))|(refine zl hR ?_;clear hR)|refine s1 ?_|exact True.intro|refine rdb [] ?_|refine rex [] ?_|(refine s2 ?_;try with_reducible intro R hR)|fail)
 all_goals exact fmx []
theorem zv3 (p b l:Int) (ls:List Ln) (pe:Bool) (m:Int) (hl:ls.length≤1048576):zu Tryz.prog 324 [Yb p b l ls pe m,gF 325] (Yb p b l ls true m):=by
 refine enx [.cell 4 43] Tryz.func324 fun X w0=>?_
 repeat'(first|(refine spl ?_ ?_<;>(intro hb;refine ne ?_))|(refine zl hR ?_;clear hR)|refine s1 ?_|exact True.intro|refine cM [(9,7)] [] (zaN p b l ls pe m hl) ?_|refine cM [(0,7)] [] (zxW p b l ls pe m) ?_|(refine s2 ?_;try with_reducible intro R hR)|fail)
theorem zxm (p b l:Int) (ls:List Ln) (pe:Bool) (m:Int) (hl:ls.length≤1048576):zu Tryz.prog 324 [Yb p b l ls pe m,gF 328] (Yb p b l ls pe 0):=by
 refine enx [.cell 4 43] Tryz.func324 fun X w0=>?_
 repeat'(first|(refine spl ?_ ?_<;>(intro hb;refine ne ?_))|(refine zl hR ?_;clear hR)|refine s1 ?_|exact True.intro|refine cM [(9,7)] [] (zaN p b l ls pe m hl) ?_|refine cM [(0,7)] [] (zxQ p b l ls pe m) ?_|(refine s2 ?_;try with_reducible intro R hR)|fail)
theorem zwx (p b l:Int) (ls:List Ln) (pe:Bool) (m:Int) (hl:ls.length≤1048576):zu Tryz.prog 324 [Yb p b l ls pe m,gF 329] (Yb p b l ls false 0):=by
 refine enx [.cell 4 43] Tryz.func324 fun X w0=>?_
 repeat'(first|(refine spl ?_ ?_<;>(intro hb;refine ne ?_))|(refine zl hR ?_;clear hR)|refine s1 ?_|exact True.intro|refine cM [(9,7)] [] (zaN p b l ls pe m hl) ?_|refine cM [(0,7)] [] (zn1 p b l ls pe m) ?_|(refine s2 ?_;try with_reducible intro R hR)|fail)
theorem zkA (p b l:Int) (ls:List Ln) (pe:Bool) (m:Int) (hl:ls.length≤1048576):zu Tryz.prog 264 [Yb p b l ls pe m] (Yb p b l ls true m):=by
 refine enx [.cell 2 43] Tryz.func264 fun X w0=>?_
 repeat'(first|(refine spl ?_ ?_<;>(intro hb;refine ne ?_))|(refine zl hR ?_;clear hR)|refine s1 ?_|exact True.intro|refine cal (zv3 p b l ls pe m hl) ?_|(refine s2 ?_;try with_reducible intro R hR)|fail)
theorem zef (p b l:Int) (ls:List Ln) (pe:Bool) (m:Int) (hl:ls.length≤1048576):zu Tryz.prog 272 [Yb p b l ls pe m] (Yb p b l ls pe 0):=by
 refine enx [.cell 2 43] Tryz.func272 fun X w0=>?_
 repeat'(first|(refine spl ?_ ?_<;>(intro hb;refine ne ?_))|(refine zl hR ?_;clear hR)|refine s1 ?_|exact True.intro|refine cal (zxm p b l ls pe m hl) ?_|(refine s2 ?_;try with_reducible intro R hR)|fail)
theorem zaq (p b l:Int) (ls:List Ln) (pe:Bool) (m:Int) (hl:ls.length≤1048576):zu Tryz.prog 273 [Yb p b l ls pe m] (Yb p b l ls false 0):=by
 refine enx [.cell 2 43] Tryz.func273 fun X w0=>?_
 repeat'(first|(refine spl ?_ ?_<;>(intro hb;refine ne ?_))|(refine zl hR ?_;clear hR)|refine s1 ?_|exact True.intro|refine cal (zwx p b l ls pe m hl) ?_|(refine s2 ?_;try with_reducible intro R hR)|fail)
theorem zzL (p b l:Int) (ls:List Ln) (m:Int) (hm:m<3):zA Tryz.prog 262 [.loc 0 0] [(0,278,cH ⟨p,b,l,ls,false,m⟩++[.f zgT])] [] (.tup []) [(0,278,[.f (eI p),.f (eI b),.f (eI l),.f (.l 4 (ls.map ZY)),.f (eB true),.f (eI m),.o 0])] [(0,3,1,[[eI 1]])]:=by
 have h3: ¬(3≤m):=by omega
 refine emx [] Tryz.func262 fun XX X G w0=>?_
 repeat'(first|(refine spl ?_ ?_<;>(intro hb;refine ne ?_))|(refine zl hR ?_;clear hR)|refine s1 ?_|exact True.intro|(exfalso;omega)|refine rdb [] ?_|refine rex [] ?_|(refine s2 ?_;try with_reducible intro R hR)|fail)
 all_goals exact fmx [(0,38)]
theorem zy8 (p b l:Int) (ls:List Ln) (m:Int) (hm:0≤m) (hm2:m<2):zA Tryz.prog 262 [.loc 0 0] [(0,278,cH ⟨p,b,l,ls,true,m⟩++[.f zgT])] [] (.tup []) [(0,278,[.f (eI p),.f (eI b),.f (eI l),.f (.l 4 (ls.map ZY)),.f (eB true),.f (eI (m+1)),.o 0])] [(0,3,1,[[eI 1]])]:=by
 have e:IntKind.i64.wrap (m+1)=m+1:=by rw[IntKind.wrap_i64];omega
 have h3: ¬(3≤m+1):=by omega
 refine emx [] Tryz.func262 fun XX X G w0=>?_
 repeat'(first|(refine spl ?_ ?_<;>(intro hb;refine ne ?_))|(refine zl hR ?_;clear hR)|refine s1 ?_|exact True.intro|(exfalso;omega)|refine rdb [] ?_|refine rex [] ?_|(refine s2 ?_;try with_reducible intro R hR)|fail)
 all_goals exact fmx [(0,38)]
theorem zAh (p b l:Int) (ls:List Ln):zA Tryz.prog 262 [.loc 0 0] [(0,278,cH ⟨p,b,l,ls,true,2⟩++[.f zgT])] [] (.tup []) [(0,278,[.f (eI 0),.f (eI 0),.f (eI 0),.f (.l 4 []),.f (eB false),.f (eI 0),.o 0])] [(0,3,1,[[eI 2]])]:=by
 have e:IntKind.i64.wrap 3=3:=by rfl
 refine emx [] Tryz.func262 fun XX X G w0=>?_
 repeat'(first|(refine spl ?_ ?_<;>(intro hb;refine ne ?_))|(refine zl hR ?_;clear hR)|refine s1 ?_|exact True.intro|(exact absurd True.intro hb)|(exfalso;omega)|refine rdb [] ?_|refine rex [] ?_|(refine s2 ?_;try with_reducible intro R hR)|fail)
 all_goals exact fmx [(0,38)]
theorem zfD (p b l:Int) (ls:List Ln) (pe:Bool) (m:Int) (hl:ls.length≤1048576) (hm:0≤m∧m<3):zu Tryz.prog 187 [Yb p b l ls pe m] (rHI (yO ⟨p,b,l,ls,pe,m⟩)):=by
 cases pe
 ·have e:yO ⟨p,b,l,ls,false,m⟩=(⟨p,b,l,ls,true,m⟩,1):=rfl
  rw[e]
  refine enx [.cell 2 43,.tmp 3] Tryz.func187 fun X w0=>?_
  repeat'(first|(refine spl ?_ ?_<;>(intro hb;refine ne ?_))|(refine zl hR ?_;clear hR)|refine s1 ?_|exact True.intro|refine cM [(9,6)] [] (zaN p b l ls false m hl) ?_|refine cM [(0,6)] [(0,90)] (zzL p b l ls m hm.2) ?_|refine rdb [] ?_|refine rex [] ?_|(refine s2 ?_;try with_reducible intro R hR)|fail)
 ·by_cases h2:m<2
  ·have e:yO ⟨p,b,l,ls,true,m⟩=(⟨p,b,l,ls,true,m+1⟩,1):=by
    have e:wr (m+1)=m+1:=zlU (by omega)
    simp only[yO,e];simp;omega
   rw[e]
   refine enx [.cell 2 43,.tmp 3] Tryz.func187 fun X w0=>?_
   repeat'(first|(refine spl ?_ ?_<;>(intro hb;refine ne ?_))|(refine zl hR ?_;clear hR)|refine s1 ?_|exact True.intro|refine cM [(9,6)] [] (zaN p b l ls true m hl) ?_|refine cM [(0,6)] [(0,90)] (zy8 p b l ls m hm.1 h2) ?_|refine rdb [] ?_|refine rex [] ?_|(refine s2 ?_;try with_reducible intro R hR)|fail)
  ·obtain rfl:m=2:=by omega
   have e:yO ⟨p,b,l,ls,true,2⟩=(zbr,2):=rfl
   rw[e]
   refine enx [.cell 2 43,.tmp 3] Tryz.func187 fun X w0=>?_
   repeat'(first|(refine spl ?_ ?_<;>(intro hb;refine ne ?_))|(refine zl hR ?_;clear hR)|refine s1 ?_|exact True.intro|refine cM [(9,6)] [] (zaN p b l ls true 2 hl) ?_|refine cM [(0,6)] [(0,90)] (zAh p b l ls) ?_|refine rdb [] ?_|refine rex [] ?_|(refine s2 ?_;try with_reducible intro R hR)|fail)
def zmw (x:Int×Int):List F:=[eI x.1,eI x.2]
attribute [push_cast] zmw
attribute [simp] zmw
abbrev zAL (l:List (Int×Int)):V:=.c (.f (.l 2 (l.map zmw)))
theorem zuI (id p:Int) (nm:ByteArray):zbe id nm p []=[]:=rfl
theorem zhb (id p:Int) (nm:ByteArray) (x:Ln) (l:List Ln):zbe id nm p (x::l)=if x.nm.toList==nm.toList then(p,outR x.ver x.wt x.fl id p)::zbe id nm p l else zbe id nm p l:=rfl
theorem zr0 (id:Int) (nm:ByteArray):ZH id nm []=[]:=rfl
theorem zhY (id:Int) (nm:ByteArray) (h:Hf) (l:List Hf):ZH id nm (h::l)=zbe id nm h.peer h.lines++ZH id nm l:=rfl
theorem zkR (x:Int):zu Tryz.prog 150 [gI x] (rII (zeu x)):=by
 refine enx [.tmp 2,.tmp 3] Tryz.func150 fun X w0=>?_
 repeat'(first|(refine spl ?_ ?_<;>(intro hb;refine ne ?_))|(refine zl hR ?_;clear hR)|refine s1 ?_|exact True.intro|fail|(refine s2 ?_;try with_reducible intro R hR)|fail)
 all_goals(refine gz ?_;grind[zeu,flowB])
theorem zqN (id:Int) (l:List Hf) (nm:ByteArray) (hl:HOk l):zu Tryz.prog 223 [gI id,Zs l,gS nm] (zAL (ZH id nm l)):=by
 obtain⟨hl1,hl2⟩:=hl
 refine enx [.tmp 6] Tryz.func223 fun X w0=>?_
 repeat'(first|(refine spl ?_ ?_<;>(intro hb;refine ne ?_))|(refine zl hR ?_;clear hR)|refine s1 ?_|exact True.intro|(refine zB (qZ 7 90 254 2 (by rfl) (by rfl)) ?_;((with_reducible refine zO ?_);refine frx (ι:=List (Int×Int)×Nat) (l.length) (fun k x=>St.ofA [(0,gI id),(1,Zs l),(2,gS nm),(7,.c (.o 90)),(8,gI k)] [] [(90,x.2,254,2,x.1.map zmw)]) (fun k x=>x.1.length≤k*1048576∧x.1++ZH id nm (l.drop k)=ZH id nm l) ([],90) ?_ (fun k x hJk hkk R hR=>?_)))|(have hkl:k<l.length:=hb;have hkk:l[k].lines.length≤1048576:=hl2 _ (List.getElem_mem hkl);((with_reducible refine zO ?_);refine frx (ι:=List (Int×Int)×Nat) (l[k].lines.length) (fun i y=>St.ofA [(0,gI id),(1,Zs l),(2,gS nm),(7,.c (.o 90)),(8,gI k),(9,.loc 9 0),(10,gI i)] [(9,43,cH l[k])] [(90,y.2,254,2,y.1.map zmw)]) (fun i y=>y.1.length≤k*1048576+i∧y.1++zbe id nm l[k].peer (l[k].lines.drop i)=x.1++zbe id nm l[k].peer l[k].lines) (x.1,90) ?_ (fun i y hJi hki R hR=>?_)))|(have hJa:=hJi.1;(with_reducible refine zL fun R hR=>?_);refine rtf 13 [0] [] ?_)|refine cad (zda _ _ _ _ _) ?_|refine lat ?_|refine fnx ((y.1++[(l[k].peer,outR l[k].lines[i].ver l[k].lines[i].wt l[k].lines[i].fl id l[k].peer)],51)) ?_ ?_|refine fnx ((y.1,90)) ?_ ?_|(refine s2 ?_;try with_reducible intro R hR)|fail)
 all_goals(refine gz ?_;grind[zuI,zhb,zr0,zhY,zP])
structure NOk (n:zQ):Prop where
 want:n.want.length≤1048576
 seen:n.seen.length≤1048576
 hv:n.hv.length≤1048576
 hn: ∀h∈n.hv,HNk h
 ch:n.ch.length≤1048576
 nm: ∀x∈n.ch,x.c.nm.size≤1048576
theorem NOk.hok {n:zQ} (h:NOk n):HOk n.hv:=⟨h.hv,fun x hx=>(h.hn x hx).1⟩
abbrev zBl:zQ:=⟨0,0,0,[],0,[],[],[]⟩
def zsa (id bt:Int):zQ:=if nodeB id&&decide (1≤bt)&&decide (bt≤1099511627776)then⟨id,bt,0,[],0,[],[],[]⟩else zBl
theorem zzN {id bt:Int} (h:0≤id∧id<16∧1≤bt∧bt≤1099511627776):zsa id bt=⟨id,bt,0,[],0,[],[],[]⟩:=by
 unfold zsa nodeB;rw[if_pos (by simp;omega)]
theorem zzb {id bt:Int} (h: ¬(0≤id∧id<16∧1≤bt∧bt≤1099511627776)):zsa id bt=zBl:=by
 unfold zsa nodeB;rw[if_neg (by simp;omega)]
theorem zq8 (id bt:Int):zu Tryz.prog 22 [gI id,gI bt] (jv (zsa id bt)):=by
 by_cases h:0≤id∧id<16∧1≤bt∧bt≤1099511627776
 ·rw[zzN h]
  obtain⟨h1,h2,h3,h4⟩:=h
  refine enx [.cell 4 27] Tryz.func22 fun X w0=>?_
  repeat'(first|(refine spl ?_ ?_<;>(intro hb;refine ne ?_))|(refine zl hR ?_;clear hR)|refine s1 ?_|exact True.intro|(exfalso;omega)|(refine s2 ?_;try with_reducible intro R hR)|fail)
 ·rw[zzb h]
  refine enx [.cell 4 27] Tryz.func22 fun X w0=>?_
  repeat'(first|(refine spl ?_ ?_<;>(intro hb;refine ne ?_))|(refine zl hR ?_;clear hR)|refine s1 ?_|exact True.intro|(exfalso;omega)|(refine s2 ?_;try with_reducible intro R hR)|fail)
theorem zrS (id bt:Int):zu Tryz.prog 39 [gI id,gI bt] (jv (zsa id bt)):=by
 by_cases h:0≤id∧id<16∧1≤bt∧bt≤1099511627776
 ·rw[zzN h]
  obtain⟨h1,h2,h3,h4⟩:=h
  refine enx [.cell 4 27] Tryz.func39 fun X w0=>?_
  repeat'(first|(refine spl ?_ ?_<;>(intro hb;refine ne ?_))|(refine zl hR ?_;clear hR)|refine s1 ?_|exact True.intro|(exfalso;omega)|(refine s2 ?_;try with_reducible intro R hR)|fail)
 ·rw[zzb h]
  refine enx [.cell 4 27] Tryz.func39 fun X w0=>?_
  repeat'(first|(refine spl ?_ ?_<;>(intro hb;refine ne ?_))|(refine zl hR ?_;clear hR)|refine s1 ?_|exact True.intro|(exfalso;omega)|(refine s2 ?_;try with_reducible intro R hR)|fail)
theorem yL (n:zQ) (h:NOk n):zu Tryz.prog 56 [jv n] (jv n):=by
 have hw:=h.want
 have h8:n.want.length*8≤140737488355328:=by omega
 refine enx [.cell 2 27] Tryz.func56 fun X w0=>?_
 repeat'(first|(refine spl ?_ ?_<;>(intro hb;refine ne ?_))|(refine zl hR ?_;clear hR)|refine s1 ?_|exact True.intro|refine rdb [] ?_|refine rex [] ?_|refine cad (zs3 n.want h8) ?_|refine cad (zt2 n.seen h.seen) ?_|refine cad (zn6 n.hv h.hok) ?_|refine cad (zcR n.ch h.ch) ?_|(refine s2 ?_;try with_reducible intro R hR)|fail)
theorem qw (n:zQ) (h:NOk n):zu Tryz.prog 38 [jv n] (jv n):=by
 have hw:=h.want
 have hs:=h.seen
 refine enx [.cell 2 27] Tryz.func38 fun X w0=>?_
 repeat'(first|(refine spl ?_ ?_<;>(intro hb;refine ne ?_))|(refine zl hR ?_;clear hR)|refine s1 ?_|exact True.intro|refine cal (zkg n.hv h.hok) ?_|refine cal (YI n.ch h.ch) ?_|refine rdb [] ?_|refine rex [] ?_|(refine s2 ?_;try with_reducible intro R hR)|fail)
theorem zbU (a b:zQ) (h:NOk a):zu Tryz.prog 37 [jv a,jv b] (gB (eqN a b)):=by
 refine enx [.tmp 4] Tryz.func37 fun X w0=>?_
 repeat'(first|(refine spl ?_ ?_<;>(intro hb;refine ne ?_))|(refine zl hR ?_;clear hR)|refine s1 ?_|exact True.intro|refine cal (zrs a.want b.want h.want) ?_|refine cal (zsK a.seen b.seen h.seen) ?_|refine cal (zmy a.hv b.hv h.hok) ?_|refine cal (zrw a.ch b.ch h.ch) ?_|(refine s2 ?_;try with_reducible intro R hR)|fail)
 all_goals(refine gz ?_;grind[eqN])
theorem zd2 (a b:zQ) (h:NOk a):zu Tryz.prog 16 [jv a,jv b] (gB (eqN a b)):=by
 refine enx [.tmp 4] Tryz.func16 fun X w0=>?_
 repeat'(first|(refine spl ?_ ?_<;>(intro hb;refine ne ?_))|(refine zl hR ?_;clear hR)|refine s1 ?_|exact True.intro|refine cal (zoa a.want b.want h.want) ?_|refine cal (zkk a.seen b.seen h.seen) ?_|refine cal (zk0 a.hv b.hv h.hok) ?_|refine cal (zke a.ch b.ch h.ch) ?_|(refine s2 ?_;try with_reducible intro R hR)|fail)
 all_goals(refine gz ?_;grind[eqN])
end Go.Proofs.YtbcbnfiedgnfpaaGreat
namespace Go.Proofs.YtbcbnfiedgnfpaaGreat
open Go.Dl Go.ChangeShapes Go.WideShapes Go.ChangeAt Go.RowKit Go.Joins Go.Deep Go.Ed
section
section
variable {H:Type} {enc:TypeId×Value→H} {P:Program} {w:World} {B:Nat}
theorem zcY {d:DataW H}: ∀ {l:List (DataW H)},d∈l→Rows.uptoBulk d≤Rows.uptoBulkAll l
 |x::r,h=>by
  simp only[Rows.uptoBulkAll]
  rcases List.mem_cons.1 h with e|e
  ·subst e;omega
  ·have:=zcY e;omega
theorem zuZ (d:DataW H):1≤Rows.uptoBulk d:=by
 cases d with
 |lit l=>cases l<;>simp[Rows.uptoBulk]
 | _=>simp[Rows.uptoBulk]
theorem zkG: ∀l:List (DataW H),l.length≤Rows.uptoBulkAll l
 |[]=>by simp[Rows.uptoBulkAll]
 |x::r=>by have:=zuZ x;have:=zkG r;simp only[Rows.uptoBulkAll,List.length_cons];omega
theorem yC {t:TypeId} {fs:Array Field} {k fuel:Nat} {cs:List Value} {x:DataW H×List MemPlace} (ht:P.underlying t=some (.struct fs)) (ce:P.cellsOf t=k)
  (h:DataW.trod enc P w 0 (fun _=>true) true fuel t cs=some x) (hb:Rows.uptoBulk x.1≤B):
  cs.length=k∧∀(j:Nat) (f:Field),fs[j]? =some f→∃fuel' y,DataW.trod enc P w 0 (fun _=>true) true fuel' f.type ((cs.drop f.offset).take (P.cellsOf f.type))=some y∧Rows.uptoBulk y.1≤B:=by
 obtain⟨xs,k',hk,hxy,hl,hxl,hf⟩:=DataW.trod_struct ht h
 refine⟨hl.trans ce,fun j f hjf=>?_⟩
 have hj:j<xs.length:=by
  rw[hxl]
  rcases Nat.lt_or_ge j fs.size with h|h
  ·simpa using h
  ·rw[Array.getElem?_eq_none h]at hjf;cases hjf
 subst hxy
 refine⟨_,_,(hf j f hjf).trans (List.getElem?_eq_getElem hj),?_⟩
 have h1:=zcY (d:=(xs[j]).1) (l:=xs.map (·.1)) (List.mem_map.2 ⟨_,List.getElem_mem hj,rfl⟩)
 simp only[Rows.uptoBulk]at hb
 omega
theorem Q1 {α:Type} {encA:α→List F} {t e:TypeId} {k fuel:Nat} {cs:List Value} {x:DataW H×List MemPlace} {Good:α→Prop} (ht:P.underlying t=some (.slice e)) (ce:P.cellsOf e=k) (hk:0<k) (hE: ∀x,(encA x).length=k)
  (hsub: ∀(fuel:Nat) (cs:List Value) (y:DataW H×List MemPlace),DataW.trod enc P w 0 (fun _=>true) true fuel e cs=some y→Rows.uptoBulk y.1≤B→∃x:α,Good x∧RepFs w (fun b=>b<w.heap.size) (encA x) cs)
  (h:DataW.trod enc P w 0 (fun _=>true) true fuel t cs=some x) (hb:Rows.uptoBulk x.1≤B):
  ∃(l:List α) (u:Value),cs=[u]∧y6 w (fun b=>b<w.heap.size) (.l k (l.map encA)) u∧l.length≤B∧∀x∈l,Good x:=by
 rcases open_slice ht h with⟨rfl,_⟩|⟨a,len,cap,m,n,D,Pl,rfl,hbk,hl,hm,hmm,rfl,hx⟩
 ·exact⟨[],_,rfl,.e,Nat.zero_le _,fun x hx=>(by cases hx)⟩
 have hmc:m=cap:=by simpa using hmm
 have hbl:=zkG ((List.range len).map D)
 rw[List.length_map,List.length_range]at hbl
 simp only[Rows.uptoBulk]at hb
 have key: ∀j:Fin len,∃x:α,Good x∧∃cs',w.cells? 0 (a.add (j.1*k)) k=some cs'∧RepFs w (fun b=>b<w.heap.size) (encA x) cs':=fun j=>by
  obtain⟨cs',h1,h2⟩:=hx j.1 (by have:=j.2;omega)
  rw[ce]at h1
  have hd:=zcY (d:=D j.1) (l:=(List.range len).map D) (List.mem_map.2 ⟨_,List.mem_range.2 j.2,rfl⟩)
  obtain⟨x,hg,hr⟩:=hsub _ _ _ h2 (by show Rows.uptoBulk (D j.1)≤B;omega)
  exact⟨x,hg,cs',h1,hr⟩
 let l:List α:=List.ofFn fun j=>Classical.choose (key j)
 have hll:l.length=len:=by simp[l]
 refine⟨l,_,rfl,?_,by omega,fun x hx=>?_⟩
 ·rcases Nat.eq_zero_or_pos len with h0|h0
  ·subst h0
   have:l=[]:=List.eq_nil_of_length_eq_zero hll
   rw[this];exact .e
  ·have hcell: ∀(i:Nat) (hi:i<l.length) (j:Nat) (q:F),(encA l[i])[j]? =some q→∃u,w.cell? (a.add (i*k+j))=some u∧y6 w (fun b=>b<w.heap.size) q u:=fun i hi j q hq=>by
    have hs:=Classical.choose_spec (key ⟨i,by omega⟩)
    have e:l[i]=Classical.choose (key ⟨i,by omega⟩):=by simp[l]
    rw[e]at hq
    obtain⟨_,cs',h1,h2⟩:=hs
    obtain⟨_,hlen,hcell⟩:=World.cells?_some h1
    have hj:j<k:=by
     rcases Nat.lt_or_ge j k with h|h
     ·exact h
     ·rw[List.getElem?_eq_none (by rw[hE];exact h)]at hq;cases hq
    have:=hcell j hj
    rw[Zn]at this
    refine⟨_,this.trans (List.getElem?_eq_getElem (by omega)),h2.2 j q _ hq (List.getElem?_eq_getElem (by omega))⟩
   have hflat: ∀(j:Nat) (q:F),((l.map encA).flatten)[j]? =some q→∃u,w.cell? (a.add j)=some u∧y6 w (fun b=>b<w.heap.size) q u:=fun j q hq=>by
    have hlf:((l.map encA).flatten).length=l.length*k:=by
     rw[List.length_flatten,List.map_map]
     have:(List.length∘encA)=fun _=>k:=funext hE
     rw[this,List.map_const',List.sum_replicate_nat]
    have hj:j<l.length*k:=by
     rcases Nat.lt_or_ge j (l.length*k)with h|h
     ·exact h
     ·rw[List.getElem?_eq_none (by omega)]at hq;cases hq
    have hi:j / k<l.length:=Nat.div_lt_of_lt_mul (by rw[Nat.mul_comm];exact hj)
    have hr:j % k<k:=Nat.mod_lt _ hk
    have hjj:j / k*k+j % k=j:=by rw[Nat.mul_comm];exact Nat.div_add_mod j k
    have hfl: ∀(l:List α) (i:Nat) (hi:i<l.length) (r:Nat),r<k→((l.map encA).flatten)[i*k+r]? =(encA l[i])[r]? :=by
     intro l
     induction l with
     |nil=>intro i hi;simp at hi
     | cons y ys ih=>
      intro i hi r hr
      rw[List.map_cons,List.flatten_cons]
      cases i with
      |zero=>rw[Nat.zero_mul,Nat.zero_add,List.getElem?_append_left (by rw[hE];exact hr)];rfl
      |succ i=>
       rw[List.getElem?_append_right (by rw[hE,Nat.succ_mul];omega),hE,show(i+1)*k+r - k=i*k+r by rw[Nat.succ_mul];omega]
       exact ih i (by simpa using hi) r hr
    rw[←hjj,hfl l _ hi _ hr]at hq
    obtain⟨u,h1,h2⟩:=hcell _ hi _ _ hq
    rw[hjj]at h1
    exact⟨u,h1,h2⟩
   refine .l (fun j=>(w.cell? (a.add j)).getD undef) (by simpa using hll) h0 (fun r hr=>by obtain⟨x,_,rfl⟩:=List.mem_map.1 hr;exact hE x) hl ?_ (fun j q hq=>?_) fun j q hq=>?_
   ·have hne:(encA (l[0]'(by omega))).length=k:=hE _
    obtain⟨u,h1,_⟩:=hcell 0 (by omega) 0 _ (List.getElem?_eq_getElem (by omega))
    have:=block_lt_of_cell h1
    rwa[qA]at this
   ·obtain⟨u,h1,_⟩:=hflat j q hq
    rw[h1];rfl
   ·obtain⟨u,h1,h2⟩:=hflat j q hq
    rw[h1];exact h2
 ·obtain⟨j,rfl⟩:=List.mem_ofFn.1 hx
  exact(Classical.choose_spec (key j)).1
theorem zjn {t:TypeId} {fuel:Nat} {cs:List Value} {x:DataW H×List MemPlace} (ht:P.underlying t=some .string) (h:DataW.trod enc P w 0 (fun _=>true) true fuel t cs=some x) (hb:Rows.uptoBulk x.1≤B): ∃s:ByteArray,cs=[.string s]∧s.size≤B:=by
 obtain⟨s,rfl,rfl,_⟩:=DataW.trod_string ht h
 refine⟨s,rfl,?_⟩
 simp only[Rows.uptoBulk,Array.length_toList]at hb
 have:s.data.size=s.size:=rfl
 omega
theorem qp {t:TypeId} {fuel:Nat} {cs:List Value} {x:DataW H×List MemPlace} (ht:P.underlying t=some (.int .i64)) (h:DataW.trod enc P w 0 (fun _=>true) true fuel t cs=some x): ∃n:Int,cs=[.int .i64 n]∧I64 n:=by
 obtain⟨n,rfl,_,hw⟩:=DataW.trod_int ht h
 exact⟨n,rfl,by simpa[Lit.wf,IntKind.min,IntKind.max,IntKind.signed,IntKind.bits,I64]using hw⟩
theorem zaD {t:TypeId} {fuel:Nat} {cs:List Value} {x:DataW H×List MemPlace} (ht:P.underlying t=some .bool) (h:DataW.trod enc P w 0 (fun _=>true) true fuel t cs=some x): ∃n:Bool,cs=[.bool n]:=by
 obtain⟨n,rfl,_⟩:=DataW.trod_bool ht h
 exact⟨n,rfl⟩
theorem Yg {I:Nat→Prop} {xs:List F} {cs:List Value} (e:xs=cs.map F.s) (h:(cs.all Value.oneCell')=true):RepFs w I xs cs:=e▸⟨by simp,fun j x u hx hu=>by
 rw[List.getElem?_map,hu]at hx
 cases hx
 exact .s (List.all_eq_true.1 h u (List.mem_of_getElem? hu))⟩
end
theorem zc2:Tryz.prog.cellsOf 9=1:=by kernel_rfl
theorem JO:Tryz.prog.cellsOf 3=1:=by kernel_rfl
theorem Zb:Tryz.prog.cellsOf 2=1:=by kernel_rfl
theorem zaZ:Tryz.prog.cellsOf 4=1:=by kernel_rfl
theorem zn2:Tryz.prog.cellsOf 47=3:=by kernel_rfl
theorem zpn:Tryz.prog.cellsOf 105=4:=by kernel_rfl
theorem zua:Tryz.prog.cellsOf 41=1:=by kernel_rfl
theorem zoy:Tryz.prog.cellsOf 43=6:=by kernel_rfl
theorem ziv:Tryz.prog.cellsOf 99=6:=by kernel_rfl
theorem znV:Tryz.prog.cellsOf 68=4:=by kernel_rfl
theorem zox:Tryz.prog.cellsOf 136=19:=by kernel_rfl
theorem ztZ:Tryz.prog.cellsOf 28=1:=by kernel_rfl
theorem zg7:Tryz.prog.cellsOf 30=8:=by kernel_rfl
theorem zoC:Tryz.prog.cellsOf 94=4:=by kernel_rfl
theorem zlw:Tryz.prog.cellsOf 101=16:=by kernel_rfl
theorem zxs:Tryz.prog.cellsOf 22=1:=by kernel_rfl
theorem zt4:Tryz.prog.cellsOf 23=1:=by kernel_rfl
theorem zqY:Tryz.prog.cellsOf 24=1:=by kernel_rfl
theorem zrc:Tryz.prog.cellsOf 25=1:=by kernel_rfl
theorem zvY:Tryz.prog.cellsOf 27=8:=by kernel_rfl
section
variable {H:Type} {enc:TypeId×Value→H} {w:World} {fuel:Nat} {cs:List Value} {y:DataW H×List MemPlace} {B:Nat}
theorem zoG (h:DataW.trod enc Tryz.prog w 0 (fun _=>true) true fuel 47 cs=some y) (hb:Rows.uptoBulk y.1≤B): ∃a b c:Int,cs=[.int .i64 a,.int .i64 b,.int .i64 c]:=by
 obtain⟨hl,hf⟩:=yC Tryz.underlying47 zn2 h hb
 match cs,hl with
 |[c0,c1,c2],_=>
  obtain⟨_,_,g0,_⟩:=hf 0 _ rfl
  obtain⟨_,_,g1,_⟩:=hf 1 _ rfl
  obtain⟨_,_,g2,_⟩:=hf 2 _ rfl
  simp[JO,Zb]at g0 g1 g2
  obtain⟨n0,r0,-⟩:=qp Tryz.underlying2 g0
  obtain⟨n1,r1,-⟩:=qp Tryz.underlying3 g1
  obtain⟨n2,r2,-⟩:=qp Tryz.underlying2 g2
  simp only[List.cons.injEq,and_true]at r0 r1 r2
  subst r0 r1 r2
  exact⟨_,_,_,rfl⟩
theorem zsZ (h:DataW.trod enc Tryz.prog w 0 (fun _=>true) true fuel 105 cs=some y) (hb:Rows.uptoBulk y.1≤B): ∃x:Ln,x.nm.size≤B∧RepFs w (fun b=>b<w.heap.size) (ZY x) cs:=by
 obtain⟨hl,hf⟩:=yC Tryz.underlying105 zpn h hb
 match cs,hl with
 |[c0,c1,c2,c3],_=>
  obtain⟨_,_,g0,b0⟩:=hf 0 _ rfl
  obtain⟨_,_,g1,b1⟩:=hf 1 _ rfl
  simp[zc2,zn2]at g0 g1
  obtain⟨n0,r0,k0⟩:=zjn Tryz.underlying9 g0 b0
  obtain⟨ve,wt,fl,r1⟩:=zoG g1 b1
  simp only[List.cons.injEq,and_true]at r0 r1
  subst r0
  obtain⟨rfl,rfl,rfl⟩:=r1
  exact⟨⟨n0,ve,wt,fl⟩,k0,Yg rfl rfl⟩
theorem zqM (h:DataW.trod enc Tryz.prog w 0 (fun _=>true) true fuel 41 cs=some y) (hb:Rows.uptoBulk y.1≤B): ∃(l:List Ln) (u:Value),cs=[u]∧y6 w (fun b=>b<w.heap.size) (.l 4 (l.map ZY)) u∧l.length≤B∧∀x∈l,x.nm.size≤B:=
 Q1 Tryz.underlying41 zpn (by decide) (fun _=>rfl) (fun _ _ _ h hb=>zsZ h hb) h hb
theorem zrU (h:DataW.trod enc Tryz.prog w 0 (fun _=>true) true fuel 43 cs=some y) (hb:Rows.uptoBulk y.1≤B): ∃x:Hf,(x.lines.length≤B∧∀y∈x.lines,y.nm.size≤B)∧RepFs w (fun b=>b<w.heap.size) (jI x) cs:=by
 obtain⟨hl,hf⟩:=yC Tryz.underlying43 zoy h hb
 match cs,hl with
 |[c0,c1,c2,c3,c4,c5],_=>
  obtain⟨_,_,g0,_⟩:=hf 0 _ rfl
  obtain⟨_,_,g1,_⟩:=hf 1 _ rfl
  obtain⟨_,_,g2,_⟩:=hf 2 _ rfl
  obtain⟨_,_,g3,b3⟩:=hf 3 _ rfl
  obtain⟨_,_,g4,_⟩:=hf 4 _ rfl
  obtain⟨_,_,g5,_⟩:=hf 5 _ rfl
  simp[JO,Zb,zaZ,zua]at g0 g1 g2 g3 g4 g5
  obtain⟨n0,r0,-⟩:=qp Tryz.underlying3 g0
  obtain⟨n1,r1,-⟩:=qp Tryz.underlying2 g1
  obtain⟨n2,r2,-⟩:=qp Tryz.underlying2 g2
  obtain⟨l,u,r3,k1,k2,k3⟩:=zqM g3 b3
  obtain⟨n4,r4⟩:=zaD Tryz.underlying4 g4
  obtain⟨n5,r5,-⟩:=qp Tryz.underlying3 g5
  simp only[List.cons.injEq,and_true]at r0 r1 r2 r3 r4 r5
  subst r0 r1 r2 r3 r4 r5
  refine⟨⟨n0,n1,n2,l,n4,n5⟩,⟨k2,k3⟩,rfl,fun j x u hx hu=>?_⟩
  match j with
  |0=>cases hx;cases hu;exact .s rfl
  |1=>cases hx;cases hu;exact .s rfl
  |2=>cases hx;cases hu;exact .s rfl
  |3=>cases hx;cases hu;exact k1
  |4=>cases hx;cases hu;exact .s rfl
  |5=>cases hx;cases hu;exact .s rfl
  |j+6=>cases hx
theorem zj2 (h:DataW.trod enc Tryz.prog w 0 (fun _=>true) true fuel 99 cs=some y) (hb:Rows.uptoBulk y.1≤B): ∃c:Ch,c.nm.size≤B∧cs=[.string c.nm,.int .i64 c.ep,.int .i64 c.ma,.bool c.al,.int .i64 c.kd,.int .i64 c.sc]:=by
 obtain⟨hl,hf⟩:=yC Tryz.underlying99 ziv h hb
 match cs,hl with
 |[c0,c1,c2,c3,c4,c5],_=>
  obtain⟨_,_,g0,b0⟩:=hf 0 _ rfl
  obtain⟨_,_,g1,_⟩:=hf 1 _ rfl
  obtain⟨_,_,g2,_⟩:=hf 2 _ rfl
  obtain⟨_,_,g3,_⟩:=hf 3 _ rfl
  obtain⟨_,_,g4,_⟩:=hf 4 _ rfl
  obtain⟨_,_,g5,_⟩:=hf 5 _ rfl
  simp[zc2,JO,Zb,zaZ]at g0 g1 g2 g3 g4 g5
  obtain⟨n0,r0,k0⟩:=zjn Tryz.underlying9 g0 b0
  obtain⟨n1,r1,-⟩:=qp Tryz.underlying2 g1
  obtain⟨n2,r2,-⟩:=qp Tryz.underlying3 g2
  obtain⟨n3,r3⟩:=zaD Tryz.underlying4 g3
  obtain⟨n4,r4,-⟩:=qp Tryz.underlying3 g4
  obtain⟨n5,r5,-⟩:=qp Tryz.underlying2 g5
  simp only[List.cons.injEq,and_true]at r0 r1 r2 r3 r4 r5
  subst r0 r1 r2 r3 r4 r5
  exact⟨⟨n0,n1,n2,n3,n4,n5⟩,k0,rfl⟩
theorem zey (h:DataW.trod enc Tryz.prog w 0 (fun _=>true) true fuel 68 cs=some y) (hb:Rows.uptoBulk y.1≤B): ∃e:Ex,cs=[.bool e.has,.int .i64 e.val,.int .i64 e.org,.int .i64 e.age]:=by
 obtain⟨hl,hf⟩:=yC Tryz.underlying68 znV h hb
 match cs,hl with
 |[c0,c1,c2,c3],_=>
  obtain⟨_,_,g0,_⟩:=hf 0 _ rfl
  obtain⟨_,_,g1,_⟩:=hf 1 _ rfl
  obtain⟨_,_,g2,_⟩:=hf 2 _ rfl
  obtain⟨_,_,g3,_⟩:=hf 3 _ rfl
  simp[JO,Zb,zaZ]at g0 g1 g2 g3
  obtain⟨n0,r0⟩:=zaD Tryz.underlying4 g0
  obtain⟨n1,r1,-⟩:=qp Tryz.underlying2 g1
  obtain⟨n2,r2,-⟩:=qp Tryz.underlying3 g2
  obtain⟨n3,r3,-⟩:=qp Tryz.underlying2 g3
  simp only[List.cons.injEq,and_true]at r0 r1 r2 r3
  subst r0 r1 r2 r3
  exact⟨⟨n0,n1,n2,n3⟩,rfl⟩
theorem ztF (h:DataW.trod enc Tryz.prog w 0 (fun _=>true) true fuel 94 cs=some y) (hb:Rows.uptoBulk y.1≤B): ∃x:Sn,True∧RepFs w (fun b=>b<w.heap.size) (QD x) cs:=by
 obtain⟨hl,hf⟩:=yC Tryz.underlying94 zoC h hb
 match cs,hl with
 |[c0,c1,c2,c3],_=>
  obtain⟨_,_,g0,_⟩:=hf 0 _ rfl
  obtain⟨_,_,g1,_⟩:=hf 1 _ rfl
  obtain⟨_,_,g2,_⟩:=hf 2 _ rfl
  obtain⟨_,_,g3,_⟩:=hf 3 _ rfl
  simp[JO,Zb,zaZ]at g0 g1 g2 g3
  obtain⟨n0,r0,-⟩:=qp Tryz.underlying3 g0
  obtain⟨n1,r1,-⟩:=qp Tryz.underlying2 g1
  obtain⟨n2,r2,-⟩:=qp Tryz.underlying2 g2
  obtain⟨n3,r3,-⟩:=qp Tryz.underlying2 g3
  simp only[List.cons.injEq,and_true]at r0 r1 r2 r3
  subst r0 r1 r2 r3
  exact⟨⟨n0,n1,n2,n3⟩,trivial,Yg rfl rfl⟩
theorem zqC (h:DataW.trod enc Tryz.prog w 0 (fun _=>true) true fuel 101 cs=some y) (hb:Rows.uptoBulk y.1≤B): ∃x:Tt,x.c.nm.size≤B∧RepFs w (fun b=>b<w.heap.size) (QO x) cs:=by
 obtain⟨hl,hf⟩:=yC Tryz.underlying101 zlw h hb
 match cs,hl with
 |[c0,c1,c2,c3,c4,c5,c6,c7,c8,c9,c10,c11,c12,c13,c14,c15],_=>
  obtain⟨_,_,g0,b0⟩:=hf 0 _ rfl
  obtain⟨_,_,g1,b1⟩:=hf 1 _ rfl
  obtain⟨_,_,g2,b2⟩:=hf 2 _ rfl
  obtain⟨_,_,g3,b3⟩:=hf 3 _ rfl
  obtain⟨_,_,g4,b4⟩:=hf 4 _ rfl
  simp[Zb,zaZ,ziv,znV]at g0 g1 g2 g3 g4
  obtain⟨c,k0,r0⟩:=zj2 g0 b0
  obtain⟨n1,r1⟩:=zaD Tryz.underlying4 g1
  obtain⟨n2,r2,-⟩:=qp Tryz.underlying2 g2
  obtain⟨e3,r3⟩:=zey g3 b3
  obtain⟨e4,r4⟩:=zey g4 b4
  simp only[List.cons.injEq,and_true]at r0 r1 r2 r3 r4
  obtain⟨rfl,rfl,rfl,rfl,rfl,rfl⟩:=r0
  subst r1 r2
  obtain⟨rfl,rfl,rfl,rfl⟩:=r3
  obtain⟨rfl,rfl,rfl,rfl⟩:=r4
  exact⟨⟨c,n1,n2,e3,e4⟩,k0,Yg rfl rfl⟩
theorem zrB (h:DataW.trod enc Tryz.prog w 0 (fun _=>true) true fuel 136 cs=some y) (hb:Rows.uptoBulk y.1≤B): ∃x:It,x.c.nm.size≤B∧RepFs w (fun b=>b<w.heap.size) (yS x) cs:=by
 obtain⟨hl,hf⟩:=yC Tryz.underlying136 zox h hb
 match cs,hl with
 |[c0,c1,c2,c3,c4,c5,c6,c7,c8,c9,c10,c11,c12,c13,c14,c15,c16,c17,c18],_=>
  obtain⟨_,_,g0,b0⟩:=hf 0 _ rfl
  obtain⟨_,_,g1,b1⟩:=hf 1 _ rfl
  obtain⟨_,_,g2,b2⟩:=hf 2 _ rfl
  obtain⟨_,_,g3,b3⟩:=hf 3 _ rfl
  obtain⟨_,_,g4,b4⟩:=hf 4 _ rfl
  obtain⟨_,_,g5,b5⟩:=hf 5 _ rfl
  simp[Zb,zaZ,ziv,zn2,znV]at g0 g1 g2 g3 g4 g5
  obtain⟨c,k0,r0⟩:=zj2 g0 b0
  obtain⟨ve,wt,fl,r1⟩:=zoG g1 b1
  obtain⟨n2,r2⟩:=zaD Tryz.underlying4 g2
  obtain⟨n3,r3,-⟩:=qp Tryz.underlying2 g3
  obtain⟨e4,r4⟩:=zey g4 b4
  obtain⟨e5,r5⟩:=zey g5 b5
  simp only[List.cons.injEq,and_true]at r0 r1 r2 r3 r4 r5
  obtain⟨rfl,rfl,rfl,rfl,rfl,rfl⟩:=r0
  obtain⟨rfl,rfl,rfl⟩:=r1
  subst r2 r3
  obtain⟨rfl,rfl,rfl,rfl⟩:=r4
  obtain⟨rfl,rfl,rfl,rfl⟩:=r5
  exact⟨⟨c,ve,wt,fl,n2,n3,e4,e5⟩,k0,Yg rfl rfl⟩
theorem zvv (h:DataW.trod enc Tryz.prog w 0 (fun _=>true) true fuel 3 cs=some y) (hb:Rows.uptoBulk y.1≤B): ∃x:Int,I64 x∧RepFs w (fun b=>b<w.heap.size) (Z3 x) cs:=by
 obtain⟨n,rfl,hn⟩:=qp Tryz.underlying3 h
 exact⟨n,hn,Yg rfl rfl⟩
structure PIn (p:qO):Prop where
 ok:PkOk p
 i:I64 p.kd∧I64 p.fr∧I64 p.to∧I64 p.bt∧I64 p.lf∧I64 p.ec∧I64 p.el
theorem zoh (h:DataW.trod enc Tryz.prog w 0 (fun _=>true) true fuel 30 cs=some y) (hb:Rows.uptoBulk y.1≤1048576): ∃p:qO,PIn p∧RepFs w (fun b=>b<w.heap.size) (yG p) cs:=by
 obtain⟨hl,hf⟩:=yC Tryz.underlying30 zg7 h hb
 match cs,hl with
 |[c0,c1,c2,c3,c4,c5,c6,c7],_=>
  obtain⟨_,_,g0,_⟩:=hf 0 _ rfl
  obtain⟨_,_,g1,_⟩:=hf 1 _ rfl
  obtain⟨_,_,g2,_⟩:=hf 2 _ rfl
  obtain⟨_,_,g3,_⟩:=hf 3 _ rfl
  obtain⟨_,_,g4,_⟩:=hf 4 _ rfl
  obtain⟨_,_,g5,_⟩:=hf 5 _ rfl
  obtain⟨_,_,g6,_⟩:=hf 6 _ rfl
  obtain⟨_,_,g7,b7⟩:=hf 7 _ rfl
  simp[Zb,JO,ztZ]at g0 g1 g2 g3 g4 g5 g6 g7
  obtain⟨n0,r0,i0⟩:=qp Tryz.underlying3 g0
  obtain⟨n1,r1,i1⟩:=qp Tryz.underlying3 g1
  obtain⟨n2,r2,i2⟩:=qp Tryz.underlying3 g2
  obtain⟨n3,r3,i3⟩:=qp Tryz.underlying2 g3
  obtain⟨n4,r4,i4⟩:=qp Tryz.underlying2 g4
  obtain⟨n5,r5,i5⟩:=qp Tryz.underlying2 g5
  obtain⟨n6,r6,i6⟩:=qp Tryz.underlying2 g6
  obtain⟨l,u,r7,k1,k2,k3⟩:=Q1 (encA:=yS) (Good:=fun x=>x.c.nm.size≤1048576) Tryz.underlying28 zox (by decide) (fun _=>rfl) (fun _ _ _ h hb=>zrB h hb) g7 b7
  simp only[List.cons.injEq,and_true]at r0 r1 r2 r3 r4 r5 r6 r7
  subst r0 r1 r2 r3 r4 r5 r6 r7
  refine⟨⟨n0,n1,n2,n3,n4,n5,n6,l⟩,⟨⟨k2,k3⟩,i0,i1,i2,i3,i4,i5,i6⟩,rfl,fun j x u hx hu=>?_⟩
  match j with
  |0=>cases hx;cases hu;exact .s rfl
  |1=>cases hx;cases hu;exact .s rfl
  |2=>cases hx;cases hu;exact .s rfl
  |3=>cases hx;cases hu;exact .s rfl
  |4=>cases hx;cases hu;exact .s rfl
  |5=>cases hx;cases hu;exact .s rfl
  |6=>cases hx;cases hu;exact .s rfl
  |7=>cases hx;cases hu;exact k1
  |j+8=>cases hx
structure NIn (n:zQ):Prop where
 ok:NOk n
 i:I64 n.id∧I64 n.bt∧I64 n.tk∧I64 n.tn
def zBI (n:zQ):List F:=[eI n.id,eI n.bt,eI n.tk,.l 1 (n.want.map Z3),eI n.tn,.l 4 (n.seen.map QD),.l 6 (n.hv.map jI),.l 16 (n.ch.map QO)]
theorem zsh (h:DataW.trod enc Tryz.prog w 0 (fun _=>true) true fuel 27 cs=some y) (hb:Rows.uptoBulk y.1≤1048576): ∃n:zQ,NIn n∧RepFs w (fun b=>b<w.heap.size) (zBI n) cs:=by
 obtain⟨hl,hf⟩:=yC Tryz.underlying27 zvY h hb
 match cs,hl with
 |[c0,c1,c2,c3,c4,c5,c6,c7],_=>
  obtain⟨_,_,g0,_⟩:=hf 0 _ rfl
  obtain⟨_,_,g1,_⟩:=hf 1 _ rfl
  obtain⟨_,_,g2,_⟩:=hf 2 _ rfl
  obtain⟨_,_,g3,b3⟩:=hf 3 _ rfl
  obtain⟨_,_,g4,_⟩:=hf 4 _ rfl
  obtain⟨_,_,g5,b5⟩:=hf 5 _ rfl
  obtain⟨_,_,g6,b6⟩:=hf 6 _ rfl
  obtain⟨_,_,g7,b7⟩:=hf 7 _ rfl
  simp[Zb,JO,zxs,zt4,zqY,zrc]at g0 g1 g2 g3 g4 g5 g6 g7
  obtain⟨n0,r0,i0⟩:=qp Tryz.underlying3 g0
  obtain⟨n1,r1,i1⟩:=qp Tryz.underlying2 g1
  obtain⟨n2,r2,i2⟩:=qp Tryz.underlying2 g2
  obtain⟨l3,u3,r3,k3,m3,_⟩:=Q1 (encA:=Z3) (Good:=fun x=>I64 x) Tryz.underlying22 JO (by decide) (fun _=>rfl) (fun _ _ _ h hb=>zvv h hb) g3 b3
  obtain⟨n4,r4,i4⟩:=qp Tryz.underlying3 g4
  obtain⟨l5,u5,r5,k5,m5,_⟩:=Q1 (encA:=QD) (Good:=fun _=>True) Tryz.underlying23 zoC (by decide) (fun _=>rfl) (fun _ _ _ h hb=>ztF h hb) g5 b5
  obtain⟨l6,u6,r6,k6,m6,p6⟩:=Q1 (encA:=jI) (Good:=fun x=>x.lines.length≤1048576∧∀y∈x.lines,y.nm.size≤1048576) Tryz.underlying24 zoy (by decide) (fun _=>rfl) (fun _ _ _ h hb=>zrU h hb) g6 b6
  obtain⟨l7,u7,r7,k7,m7,p7⟩:=Q1 (encA:=QO) (Good:=fun x=>x.c.nm.size≤1048576) Tryz.underlying25 zlw (by decide) (fun _=>rfl) (fun _ _ _ h hb=>zqC h hb) g7 b7
  simp only[List.cons.injEq,and_true]at r0 r1 r2 r3 r4 r5 r6 r7
  subst r0 r1 r2 r3 r4 r5 r6 r7
  refine⟨⟨n0,n1,n2,l3,n4,l5,l6,l7⟩,⟨⟨m3,m5,m6,p6,m7,p7⟩,i0,i1,i2,i4⟩,rfl,fun j x u hx hu=>?_⟩
  match j with
  |0=>cases hx;cases hu;exact .s rfl
  |1=>cases hx;cases hu;exact .s rfl
  |2=>cases hx;cases hu;exact .s rfl
  |3=>cases hx;cases hu;exact k3
  |4=>cases hx;cases hu;exact .s rfl
  |5=>cases hx;cases hu;exact k5
  |6=>cases hx;cases hu;exact k6
  |7=>cases hx;cases hu;exact k7
  |j+8=>cases hx
end
end
end Go.Proofs.YtbcbnfiedgnfpaaGreat
namespace Go.Proofs.YtbcbnfiedgnfpaaGreat
open Go.Dl
attribute [local irreducible] DW yE zY zA zu zky
attribute [local push_cast] zZ qF qC zN zM zD zE qH qE qz Go.Dl.qY yT qy List.mem_cons List.not_mem_nil or_false forall_eq false_implies implies_true
abbrev rTI (x:Tt×Int):V:=.tup [(true,cTt x.1),(false,[.f (eI x.2)])]
def zes (n:zQ) (nm:ByteArray):Tt×Int:=if !(findT nm n.ch).2 then((findT nm n.ch).1,44)else if !QQ (findT nm n.ch).1.c.kd then((findT nm n.ch).1,46)else((findT nm n.ch).1,0)
def zAn (n:zQ) (nm:ByteArray):Tt×Int:=if !(findT nm n.ch).2 then((findT nm n.ch).1,44)else if QQ (findT nm n.ch).1.c.kd then((findT nm n.ch).1,46)else((findT nm n.ch).1,0)
theorem zei (n:zQ) (nm:ByteArray) (h:n.ch.length≤1048576):zu Tryz.prog 66 [jv n,gS nm] (rTI (zes n nm)):=by
 refine enx [.cell 4 101,.tmp 5] Tryz.func66 fun X w0=>?_
 repeat'(first|(refine spl ?_ ?_<;>(intro hb;refine ne ?_))|(refine zl hR ?_;clear hR)|refine s1 ?_|exact True.intro|refine cal (zch n.ch nm h) ?_|refine cal (zdG _) ?_|(with_reducible refine qR rfl ?_)|(with_reducible refine qT ?_)|(dsimp only[YT])|(refine s2 ?_;try with_reducible intro R hR)|fail)
 all_goals(refine gz ?_;grind[zes])
theorem zBT (n:zQ) (nm:ByteArray) (h:n.ch.length≤1048576):zu Tryz.prog 74 [jv n,gS nm,gB true] (rTI (zes n nm)):=by
 refine enx [.cell 6 101,.tmp 7] Tryz.func74 fun X w0=>?_
 repeat'(first|(refine spl ?_ ?_<;>(intro hb;refine ne ?_))|(refine zl hR ?_;clear hR)|refine s1 ?_|exact True.intro|refine cal (jf n.ch nm h) ?_|refine cal (JH _) ?_|(refine s2 ?_;try with_reducible intro R hR)|fail)
 all_goals(refine gz ?_;grind[zes])
theorem zBg (n:zQ) (nm:ByteArray) (h:n.ch.length≤1048576):zu Tryz.prog 74 [jv n,gS nm,gB false] (rTI (zAn n nm)):=by
 refine enx [.cell 6 101,.tmp 7] Tryz.func74 fun X w0=>?_
 repeat'(first|(refine spl ?_ ?_<;>(intro hb;refine ne ?_))|(refine zl hR ?_;clear hR)|refine s1 ?_|exact True.intro|refine cal (jf n.ch nm h) ?_|refine cal (JH _) ?_|(refine s2 ?_;try with_reducible intro R hR)|fail)
 all_goals(refine gz ?_;grind[zAn])
theorem ztM (n:zQ) (nm:ByteArray) (p:Int):rstN n nm p=if(zes n nm).2=0 then Yt n.id (zes n nm).1.inp n.hv nm p else(0,(zes n nm).2):=by
 unfold rstN zes;repeat' split<;>simp_all
theorem zs6 (n:zQ) (nm:ByteArray):estN n nm=if(zes n nm).2=0 then zxY n.id (zes n nm).1.inp n.hv nm else(0,(zes n nm).2):=by
 unfold estN zes;repeat' split<;>simp_all
theorem zDb (n:zQ) (nm:ByteArray):(zes n nm).1=(findT nm n.ch).1:=by unfold zes;(repeat' split)<;>rfl
theorem zbp (n:zQ) (nm:ByteArray) (p:Int) (h:NOk n):zu Tryz.prog 19 [jv n,gS nm,gI p] (rII (rstN n nm p)):=by
 rw[ztM]
 refine enx [.tmp 6,.tmp 7] Tryz.func19 fun X w0=>?_
 repeat'(first|(refine spl ?_ ?_<;>(intro hb;refine ne ?_))|(refine zl hR ?_;clear hR)|refine s1 ?_|exact True.intro|refine cal (zei n nm h.ch) ?_|refine cal (znr n.id (zes n nm).1.inp n.hv nm p h.hok.lines) ?_|(refine s2 ?_;try with_reducible intro R hR)|fail)
 all_goals(refine gz ?_;grind[])
theorem ze7 (n:zQ) (nm:ByteArray) (h:NOk n):zu Tryz.prog 20 [jv n,gS nm] (rII (estN n nm)):=by
 rw[zs6]
 refine enx [.tmp 4,.tmp 5] Tryz.func20 fun X w0=>?_
 repeat'(first|(refine spl ?_ ?_<;>(intro hb;refine ne ?_))|(refine zl hR ?_;clear hR)|refine s1 ?_|exact True.intro|refine cal (zei n nm h.ch) ?_|refine cal (zeU n.id (zes n nm).1.inp n.hv nm h.hok.lines) ?_|(refine s2 ?_;try with_reducible intro R hR)|fail)
 all_goals(refine gz ?_;grind[])
def ziL (p:Int) (l:List (Int×Int)) (s:Int):Int:=match l with
 |[]=>s
 |x::l=>ziL p l (if x.1≠p then wr (s+x.2)else s)
theorem zlg (p s:Int):ziL p [] s=s:=rfl
theorem zhT (p:Int) (x:Int×Int) (l:List (Int×Int)) (s:Int):ziL p (x::l) s=ziL p l (if x.1≠p then wr (s+x.2)else s):=rfl
theorem zjk (p:Int): ∀(l:List (Int×Int)) (s:Int),wr s=s→ziL p l s=wr (s+zm9 (fun n=>decide (n≠p)) l)
 |[],s,h=>by simp[zlg,zm9,h]
 | x::l,s,h=>by
  rw[zhT,zm9]
  split
  ·rename_i hx
   rw[zjk p l _ (zyd _)]
   simp only[wr,IntKind.wrap_i64,hx,ne_eq,not_false_eq_true,decide_true,if_true];omega
  ·rename_i hx
   rw[zjk p l _ h];simp[hx]
theorem zi6 (id:Int) (l:List Hf) (nm:ByteArray) (p:Int) (hl:HOk l) (hs:(ZH id nm l).length≤4611686018427387904):zu Tryz.prog 151 [gI id,Zs l,gS nm,gI p] (gI (ziL p (ZH id nm l) 0)):=by
 have hc:=zqN id l nm hl
 obtain⟨e,he⟩: ∃e,ZH id nm l=e:=⟨_,rfl⟩
 rw[he]at hc hs ⊢
 clear he
 refine enx [.tmp 8] Tryz.func151 fun X w0=>?_
 repeat'(first|(refine spl ?_ ?_<;>(intro hb;refine ne ?_))|(refine zl hR ?_;clear hR)|refine s1 ?_|exact True.intro|refine cal (hc) ?_|((with_reducible refine zO ?_);refine frx (ι:=Int) (e.length) (fun k x=>St.ofA [(3,gI p),(9,gI x),(10,zAL e),(11,gI k)] [] []) (fun k x=>ziL p e 0=ziL p (e.drop k) x) 0 ?_ (fun k x hJ hk R hR=>?_))|refine fnx (x) ?_ ?_|refine fnx (wr (x+e[k].2)) ?_ ?_|(refine s2 ?_;try with_reducible intro R hR)|fail)
 all_goals(refine gz ?_;grind[zlg,zhT,zP])
theorem zlj (id p:Int) (nm:ByteArray): ∀l:List Ln,(zbe id nm p l).length≤l.length
 |[]=>Nat.le_refl _
 |x::l=>by
  have:=zlj id p nm l
  rw[zhb];split<;>simp<;>omega
theorem zjU (id:Int) (nm:ByteArray): ∀l:List Hf,(∀h∈l,h.lines.length≤1048576)→(ZH id nm l).length≤l.length*1048576
 |[],_=>Nat.le_refl _
 |h::l,hl=>by
  have h1:=zlj id h.peer nm h.lines
  have h2:=hl h (List.mem_cons_self ..)
  have h3:=zjU id nm l fun x hx=>hl x (List.mem_cons_of_mem _ hx)
  rw[zhY];simp;omega
theorem HOk.ent {l:List Hf} (h:HOk l) (id:Int) (nm:ByteArray):(ZH id nm l).length≤4611686018427387904:=by
 have:=zjU id nm l h.2;have:=h.1;omega
theorem zaG (id inp:Int) (l:List Hf) (nm:ByteArray) (p:Int) (hl:HOk l) (hi:wr inp=inp):zu Tryz.prog 76 [gI id,gI inp,Zs l,gS nm,gI p] (rII (Yt id inp l nm p)):=by
 have e:Yt id inp l nm p=zeu (wr (inp - ziL p (ZH id nm l) 0)):=by
  unfold Yt
  rw[zga _ _ _ hi,zjk p _ 0 rfl]
  congr 1
  simp only[wr,IntKind.wrap_i64];omega
 rw[e]
 refine enx [.tmp 10,.tmp 11] Tryz.func76 fun X w0=>?_
 repeat'(first|(refine spl ?_ ?_<;>(intro hb;refine ne ?_))|(refine zl hR ?_;clear hR)|refine s1 ?_|exact True.intro|refine cal (zi6 id l nm p hl (hl.ent id nm)) ?_|refine cal (zkR _) ?_|(refine s2 ?_;try with_reducible intro R hR)|fail)
theorem zCL {q r:Int→Bool}: ∀ {l:List (Int×Int)},(∀x∈l,q x.1=r x.1)→zm9 q l=zm9 r l
 |[],_=>rfl
 |x::l,h=>by rw[zm9,zm9,h x (List.mem_cons_self ..),zCL fun y hy=>h y (List.mem_cons_of_mem _ hy)]
theorem zu2 {id p:Int} {nm:ByteArray}: ∀ {l:List Ln},∀x∈zbe id nm p l,x.1=p
 |[],x,h=>by cases h
 | y::l,x,h=>by
  rw[zhb]at h;split at h
  ·rcases List.mem_cons.1 h with rfl|h
   ·rfl
   ·exact zu2 x h
  ·exact zu2 x h
theorem zCK {id:Int} {nm:ByteArray}: ∀ {l:List Hf},∀x∈ZH id nm l,∃h∈l,x.1=h.peer
 |[],x,h=>by cases h
 |y::l,x,h=>by
  rw[zhY]at h
  rcases List.mem_append.1 h with h|h
  ·exact⟨y,List.mem_cons_self ..,zu2 x h⟩
  ·obtain⟨z,hz,e⟩:=zCK x h;exact⟨z,List.mem_cons_of_mem _ hz,e⟩
theorem zzz (id inp:Int) (l:List Hf) (nm:ByteArray) (hl:HOk l) (hi:wr inp=inp) (hp: ∀h∈l,h.peer≠ -1):zu Tryz.prog 75 [gI id,gI inp,Zs l,gS nm] (rII (zxY id inp l nm)):=by
 have e:zxY id inp l nm=zeu (wr (inp - ziL (-1) (ZH id nm l) 0)):=by
  unfold zxY
  rw[zga _ _ _ hi,zjk (-1) _ 0 rfl]
  rw[zCL (q:=fun _=>true) (r:=fun n=>decide (n≠ -1)) fun x hx=>by obtain⟨h,hm,e⟩:=zCK x hx;rw[e];simp[hp h hm]]
  congr 1
  simp only[wr,IntKind.wrap_i64];omega
 rw[e]
 refine enx [.tmp 8,.tmp 9] Tryz.func75 fun X w0=>?_
 repeat'(first|(refine spl ?_ ?_<;>(intro hb;refine ne ?_))|(refine zl hR ?_;clear hR)|refine s1 ?_|exact True.intro|refine cal (zi6 id l nm (-1) hl (hl.ent id nm)) ?_|refine cal (zkR _) ?_|(refine s2 ?_;try with_reducible intro R hR)|fail)
theorem zDm (n:zQ) (nm:ByteArray) (p:Int) (h:NOk n) (hi:wr (findT nm n.ch).1.inp=(findT nm n.ch).1.inp):zu Tryz.prog 28 [jv n,gS nm,gI p] (rII (rstN n nm p)):=by
 rw[←zDb]at hi
 rw[ztM]
 refine enx [.tmp 6,.tmp 7] Tryz.func28 fun X w0=>?_
 repeat'(first|(refine spl ?_ ?_<;>(intro hb;refine ne ?_))|(refine zl hR ?_;clear hR)|refine s1 ?_|exact True.intro|refine cal (zBT n nm h.ch) ?_|refine cal (zaG n.id (zes n nm).1.inp n.hv nm p h.hok hi) ?_|(refine s2 ?_;try with_reducible intro R hR)|fail)
 all_goals(refine gz ?_;grind[])
theorem zAj (n:zQ) (nm:ByteArray) (h:NOk n) (hi:wr (findT nm n.ch).1.inp=(findT nm n.ch).1.inp) (hp: ∀x∈n.hv,x.peer≠ -1):zu Tryz.prog 27 [jv n,gS nm] (rII (estN n nm)):=by
 rw[←zDb]at hi
 rw[zs6]
 refine enx [.tmp 4,.tmp 5] Tryz.func27 fun X w0=>?_
 repeat'(first|(refine spl ?_ ?_<;>(intro hb;refine ne ?_))|(refine zl hR ?_;clear hR)|refine s1 ?_|exact True.intro|refine cal (zBT n nm h.ch) ?_|refine cal (zzz n.id (zes n nm).1.inp n.hv nm h.hok hi hp) ?_|(refine s2 ?_;try with_reducible intro R hR)|fail)
 all_goals(refine gz ?_;grind[])
abbrev rXI (x:Ex×Int):V:=.tup [(true,[.f (eB x.1.has),.f (eI x.1.val),.f (eI x.1.org),.f (eI x.1.age)]),(false,[.f (eI x.2)])]
def zEi (e:Ex) (b:Bool) (kd:Int):Ex×Int:=if !b then(noEx,44)else if¬kd=4 then(noEx,46)else if !e.has then(noEx,50)else(e,0)
def zDx (n:zQ) (nm:ByteArray):Ex×Int:=zEi (findT nm n.ch).1.mn (findT nm n.ch).2 (findT nm n.ch).1.c.kd
def zDA (n:zQ) (nm:ByteArray):Ex×Int:=zEi (findT nm n.ch).1.mx (findT nm n.ch).2 (findT nm n.ch).1.c.kd
theorem zEH (x:Tt):zu Tryz.prog 78 [gT x] (gX x.mn):=by
 refine enx [.cell 2 68] Tryz.func78 fun X w0=>?_
 repeat'(first|(refine spl ?_ ?_<;>(intro hb;refine ne ?_))|(refine zl hR ?_;clear hR)|refine s1 ?_|exact True.intro|fail|(refine s2 ?_;try with_reducible intro R hR)|fail)
theorem zEL (x:Tt):zu Tryz.prog 79 [gT x] (gX x.mx):=by
 refine enx [.cell 2 68] Tryz.func79 fun X w0=>?_
 repeat'(first|(refine spl ?_ ?_<;>(intro hb;refine ne ?_))|(refine zl hR ?_;clear hR)|refine s1 ?_|exact True.intro|fail|(refine s2 ?_;try with_reducible intro R hR)|fail)
theorem zDt (n:zQ) (nm:ByteArray) (h:n.ch.length≤1048576):zu Tryz.prog 77 [jv n,gS nm,gF 78] (rXI (zDx n nm)):=by
 refine enx [.cell 6 68,.tmp 7] Tryz.func77 fun X w0=>?_
 repeat'(first|(refine spl ?_ ?_<;>(intro hb;refine ne ?_))|(refine zl hR ?_;clear hR)|refine s1 ?_|exact True.intro|refine cal (zch n.ch nm h) ?_|refine cav (zEH (findT nm n.ch).1) ?_|(with_reducible refine qR rfl ?_)|(with_reducible refine qT ?_)|(dsimp only[YT])|(refine s2 ?_;try with_reducible intro R hR)|fail)
 all_goals(refine gz ?_;grind[zDx,zEi])
theorem zDv (n:zQ) (nm:ByteArray) (h:n.ch.length≤1048576):zu Tryz.prog 77 [jv n,gS nm,gF 79] (rXI (zDA n nm)):=by
 refine enx [.cell 6 68,.tmp 7] Tryz.func77 fun X w0=>?_
 repeat'(first|(refine spl ?_ ?_<;>(intro hb;refine ne ?_))|(refine zl hR ?_;clear hR)|refine s1 ?_|exact True.intro|refine cal (zch n.ch nm h) ?_|refine cav (zEL (findT nm n.ch).1) ?_|(with_reducible refine qR rfl ?_)|(with_reducible refine qT ?_)|(dsimp only[YT])|(refine s2 ?_;try with_reducible intro R hR)|fail)
 all_goals(refine gz ?_;grind[zDA,zEi])
theorem zDn (n:zQ) (nm:ByteArray) (h:n.ch.length≤1048576):zu Tryz.prog 29 [jv n,gS nm] (rXI (zDx n nm)):=by
 refine enx [.cell 4 68,.tmp 5] Tryz.func29 fun X w0=>?_
 repeat'(first|(refine spl ?_ ?_<;>(intro hb;refine ne ?_))|(refine zl hR ?_;clear hR)|refine s1 ?_|exact True.intro|refine cal (zDt n nm h) ?_|(refine s2 ?_;try with_reducible intro R hR)|fail)
theorem zBY (n:zQ) (nm:ByteArray) (h:n.ch.length≤1048576):zu Tryz.prog 31 [jv n,gS nm] (rXI (zDA n nm)):=by
 refine enx [.cell 4 68,.tmp 5] Tryz.func31 fun X w0=>?_
 repeat'(first|(refine spl ?_ ?_<;>(intro hb;refine ne ?_))|(refine zl hR ?_;clear hR)|refine s1 ?_|exact True.intro|refine cal (zDv n nm h) ?_|(refine s2 ?_;try with_reducible intro R hR)|fail)
theorem zDG {n:zQ} (nm:ByteArray) (hk: ∀x∈n.ch,1≤x.c.kd∧x.c.kd≤4):zDx n nm=(if(zAn n nm).2=0 then(if(zAn n nm).1.mn.has then((zAn n nm).1.mn,0)else(noEx,50))else(noEx,(zAn n nm).2))∧zDA n nm=(if(zAn n nm).2=0 then(if(zAn n nm).1.mx.has then((zAn n nm).1.mx,0)else(noEx,50))else(noEx,(zAn n nm).2)):=by
 unfold zDx zDA zEi zAn
 rcases hf:findT nm n.ch with⟨s,b⟩
 cases b
 ·simp
 ·have hm:=(Q3 hf).1
  have hkd:=hk s hm
  by_cases h4:s.c.kd=4
  ·have this:QQ 4=false:=rfl
   simp only[h4,this]
   cases h1:s.mn.has<;>cases h2:s.mx.has<;>simp[h1,h2]
  ·have:QQ s.c.kd=true:=by simp only[QQ,Bool.and_eq_true,decide_eq_true_eq];omega
   simp only[this];simp[h4]
theorem zC3 (n:zQ) (nm:ByteArray) (h:n.ch.length≤1048576) (hk: ∀x∈n.ch,1≤x.c.kd∧x.c.kd≤4):zu Tryz.prog 30 [jv n,gS nm] (rXI (zDx n nm)):=by
 rw[(zDG nm hk).1]
 refine enx [.cell 4 68,.tmp 5] Tryz.func30 fun X w0=>?_
 repeat'(first|(refine spl ?_ ?_<;>(intro hb;refine ne ?_))|(refine zl hR ?_;clear hR)|refine s1 ?_|exact True.intro|refine cal (zBg n nm h) ?_|(refine s2 ?_;try with_reducible intro R hR)|fail)
 all_goals(refine gz ?_;grind[])
theorem zAi (n:zQ) (nm:ByteArray) (h:n.ch.length≤1048576) (hk: ∀x∈n.ch,1≤x.c.kd∧x.c.kd≤4):zu Tryz.prog 32 [jv n,gS nm] (rXI (zDA n nm)):=by
 rw[(zDG nm hk).2]
 refine enx [.cell 4 68,.tmp 5] Tryz.func32 fun X w0=>?_
 repeat'(first|(refine spl ?_ ?_<;>(intro hb;refine ne ?_))|(refine zl hR ?_;clear hR)|refine s1 ?_|exact True.intro|refine cal (zBg n nm h) ?_|(refine s2 ?_;try with_reducible intro R hR)|fail)
 all_goals(refine gz ?_;grind[])
end Go.Proofs.YtbcbnfiedgnfpaaGreat
