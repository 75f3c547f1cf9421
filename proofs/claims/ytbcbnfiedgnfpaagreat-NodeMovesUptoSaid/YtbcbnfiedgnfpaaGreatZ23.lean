import Derived.Test.YtbcbnfiedgnfpaaGreatZ17
import Derived.Test.YtbcbnfiedgnfpaaGreatZ19
import Derived.Test.YtbcbnfiedgnfpaaGreatZ21
import Derived.Test.YtbcbnfiedgnfpaaGreatZ22
import Derived.Test.YtbcbnfiedgnfpaaGreatZ13
import Derived.Test.YtbcbnfiedgnfpaaGreatZ15
import Derived.Test.YtbcbnfiedgnfpaaGreatZ16
set_option linter.unusedSimpArgs false
set_option linter.unusedVariables false
set_option maxRecDepth 100000
set_option maxHeartbeats 2000000
namespace Go.Proofs.YtbcbnfiedgnfpaaGreat
open Go.Dl
def zdX (a p:Int) (x:Ln):Bool:=jr x.nm&& !(decide (x.ver=0)&&decide (x.wt=0)&&decide (x.fl=0))&&Qd x.ver x.wt x.fl a p
theorem znx (a p:Int) (o:Option ByteArray) (x:Ln) (l:List Ln):Ze a p o (x::l)=(jr x.nm&&(match o with|none=>true|some q=>Op.bytesLess q.toList x.nm.toList)&& !(decide (x.ver=0)&&decide (x.wt=0)&&decide (x.fl=0))&&Qd x.ver x.wt x.fl a p&&Ze a p (some x.nm) l):=rfl
theorem zhz {a p:Int}: ∀ {l:List Ln} {o:Option ByteArray},Ze a p o l=true↔Y8 l∧(∀x∈l,zdX a p x=true)∧∀q,o=some q→∀x∈l,Op.bytesLess q.toList x.nm.toList=true
 |[],o=>by simp[Ze,Y8]
 | x::l,o=>by
  have ih:=zhz (a:=a) (p:=p) (l:=l) (o:=some x.nm)
  have e:Ze a p o (x::l)=true↔zdX a p x=true∧(∀q,o=some q→Op.bytesLess q.toList x.nm.toList=true)∧Ze a p (some x.nm) l=true:=by
   rw[znx,zdX]
   cases o<;>simp[and_assoc]<;>grind
  rw[e,ih]
  simp only[Y8,List.pairwise_cons,List.mem_cons,forall_eq_or_imp,Option.some.injEq,forall_eq']
  constructor
  ·rintro⟨h1,h2,h3,h4,h5⟩
   exact⟨⟨h5,h3⟩,⟨h1,h4⟩,fun q hq=>⟨h2 q hq,fun y hy=>Zg (h2 q hq) (h5 y hy)⟩⟩
  ·rintro⟨⟨h5,h3⟩,⟨h1,h4⟩,h6⟩
   exact⟨h1,fun q hq=>(h6 q hq).1,h3,h4,h5⟩
def zcw (a:Int) (h:Hf):Prop:=nodeB a=true∧nodeB h.peer=true∧a≠h.peer∧1≤h.boot∧h.boot≤1099511627776∧0≤h.life∧h.life≤1099511627776∧0≤h.miss∧h.miss<3∧(h.miss≤0∨h.pend=true)
theorem z0 {a:Int} {h:Hf}:qQ a h=true↔zcw a h∧h.lines.length≤8∧Y8 h.lines∧∀x∈h.lines,zdX a h.peer x=true:=by
 have e:=zhz (a:=a) (p:=h.peer) (l:=h.lines) (o:=none)
 have e2:qQ a h=true↔zcw a h∧h.lines.length≤8∧Ze a h.peer none h.lines=true:=by
  simp only[qQ,JT,zcw,Bool.and_eq_true,Bool.or_eq_true,Bool.not_eq_true',decide_eq_true_eq,decide_eq_false_iff_not]
  grind
 rw[e2,e];simp
theorem zok (a:Int) (o:Option Int) (h:Hf) (l:List Hf):YH a o (h::l)=(qQ a h&&(match o with|none=>true|some q=>decide (q<h.peer))&&YH a (some h.peer) l):=rfl
theorem zia {a:Int}: ∀ {l:List Hf} {o:Option Int},YH a o l=true↔SrtH l∧(∀h∈l,qQ a h=true)∧∀q,o=some q→∀h∈l,q<h.peer
 |[],o=>by simp[YH,SrtH]
 | x::l,o=>by
  have ih:=zia (a:=a) (l:=l) (o:=some x.peer)
  have e:YH a o (x::l)=true↔qQ a x=true∧(∀q,o=some q→q<x.peer)∧YH a (some x.peer) l=true:=by
   rw[zok]
   cases o<;>simp[and_assoc]
  rw[e,ih]
  simp only[SrtH,List.pairwise_cons,List.mem_cons,forall_eq_or_imp,Option.some.injEq,forall_eq']
  constructor
  ·rintro⟨h1,h2,h3,h4,h5⟩
   exact⟨⟨h5,h3⟩,⟨h1,h4⟩,fun q hq=>⟨h2 q hq,fun y hy=>Int.lt_trans (h2 q hq) (h5 y hy)⟩⟩
  ·rintro⟨⟨h5,h3⟩,⟨h1,h4⟩,h6⟩
   exact⟨h1,fun q hq=>(h6 q hq).1,h3,h4,h5⟩
theorem q8 {a:Int} {l:List Hf}:fitsH a l=true↔SrtH l∧(∀h∈l,qQ a h=true)∧nodeB a=true:=by
 rw[fitsH,Bool.and_eq_true,zia];simp[and_assoc]
theorem qd {n:Int}:nodeB n=true↔0≤n∧n<16:=by simp[nodeB]
theorem zii {a:Int} {l:List Hf} (h:fitsH a l=true):RngH l:=fun x hx=>by
 have:=((z0.1 ((q8.1 h).2.1 x hx)).1).2.1
 exact qd.1 this
theorem zgu {α:Type} (f:α→Int): ∀ {l:List α} {m n:Int},l.Pairwise (fun a b=>f a<f b)→(∀x∈l,m≤f x∧f x<n)→m≤n→(l.length:Int)≤n - m
 |[],m,n,_,_,h=>by simp;omega
 |x::l,m,n,hp,hr,h=>by
  have hp':=List.pairwise_cons.1 hp
  have hx:=hr x (List.mem_cons_self ..)
  have:=zgu f (l:=l) (m:=f x+1) (n:=n) hp'.2 (fun y hy=>⟨by have:=hp'.1 y hy;omega,(hr y (List.mem_cons_of_mem _ hy)).2⟩) (by omega)
  simp only[List.length_cons];omega
theorem jW {a:Int} {l:List Hf} (h:fitsH a l=true):l.length≤16:=by
 have:=zgu (fun x:Hf=>x.peer) (m:=0) (n:=16) (q8.1 h).1 (zii h) (by decide);omega
theorem qt {a:Int} {l:List Sn} (h:fitsS a l=true):l.length≤16:=by
 obtain⟨hs,ho,_⟩:=ZD.1 h
 have:=zgu (fun x:Sn=>x.id) (m:=0) (n:=16) hs (fun x hx=>by have:=ho x hx;simp only[okS,Bool.and_eq_true]at this;exact qd.1 (by grind)) (by decide);omega
theorem zib {s:ByteArray} (h:jr s=true):1≤s.size∧s.size≤16:=by simp only[jr,Bool.and_eq_true,decide_eq_true_eq]at h;omega
theorem zum {a:Int} {l:List Hf} (h:fitsH a l=true):HOk l:=⟨by have:=jW h;omega,fun x hx=>by have:=(z0.1 ((q8.1 h).2.1 x hx)).2.1;omega⟩
theorem zqv {a:Int} {l:List Hf} (p:Int) (h:fitsH a l=true):fitsH a (ZM p false l).1=true:=by
 obtain⟨h1,h2,h3⟩:=q8.1 h
 exact q8.2 ⟨zoK h1,fun x hx=>h2 x (zcc.1 hx).1,h3⟩
theorem zp9 {a:Int} {l:List Hf} {x:Hf} (h:fitsH a l=true) (hx:qQ a x=true):fitsH a (qu l x)=true:=by
 obtain⟨h1,h2,h3⟩:=q8.1 h
 refine q8.2 ⟨zo0 h1,fun y hy=>?_,h3⟩
 rcases Jp.1 hy with rfl|⟨hy,_⟩
 ·exact hx
 ·exact h2 y hy
theorem zjl {l:List Ln} {nm:ByteArray} {g:jQ} {x:Ln} (h:x∈jB l nm g):x∈l∨(x=⟨nm,g.1,g.2.1,g.2.2⟩∧ZK g=false):=by
 unfold jB at h
 split at h
 ·exact .inl h
 ·rw[List.mem_append,List.mem_append]at h
  rcases h with(h|h)|h
  ·exact .inl (List.mem_of_mem_take h)
  ·split at h
   ·cases h
   ·rename_i hz
    exact .inr ⟨List.mem_singleton.1 h,by simpa using hz⟩
  ·exact .inl (List.mem_of_mem_drop h)
theorem zne {nm:ByteArray}: ∀ {l:List Ln},∀x∈l.take (ltL nm l),Op.bytesLess x.nm.toList nm.toList=true
 |[],x,h=>by simp at h
 | y::l,x,h=>by
  rw[yw]at h
  split at h
  ·rename_i hy
   rw[Nat.add_comm,List.take_succ_cons]at h
   rcases List.mem_cons.1 h with rfl|h
   ·exact hy
   ·exact zne x h
  ·simp at h
theorem zm8 {nm:ByteArray}: ∀ {l:List Ln},Y8 l→∀x∈l.drop (if qY nm l then ltL nm l+1 else ltL nm l),Op.bytesLess nm.toList x.nm.toList=true
 |[],_,x,h=>by simp at h
 | y::l,hs,x,h=>by
  have hs':=List.pairwise_cons.1 hs
  have ei:qY nm (y::l)=if Op.bytesLess y.nm.toList nm.toList then qY nm l else(y.nm.toList==nm.toList):=by
   unfold qY;rw[yw]
   cases Op.bytesLess y.nm.toList nm.toList
   ·rfl
   ·simp only[if_true,Nat.add_comm 1,List.drop_succ_cons]
  rw[ei,yw]at h
  cases hy:Op.bytesLess y.nm.toList nm.toList
  ·rw[hy]at h
   simp only[Bool.false_eq_true,if_false]at h
   cases hq:y.nm.toList==nm.toList
   ·rw[hq]at h
    simp only[Bool.false_eq_true,if_false,List.drop_zero]at h
    have h0:=zdr hy (by simpa using hq)
    rcases List.mem_cons.1 h with rfl|h
    ·exact h0
    ·exact Zg h0 (hs'.1 x h)
   ·rw[hq]at h
    simp only[if_true,Nat.zero_add,List.drop_succ_cons,List.drop_zero]at h
    have e:y.nm.toList=nm.toList:=by simpa using hq
    rw[←e];exact hs'.1 x h
  ·rw[hy]at h
   simp only[if_true]at h
   refine zm8 hs'.2 x ?_
   split at h
   ·rename_i hi
    rw[hi];simp only[if_true]
    rw[show 1+ltL nm l+1=(ltL nm l+1)+1 by omega,List.drop_succ_cons]at h
    exact h
   ·rename_i hi
    simp only[hi,if_false]
    rw[Nat.add_comm,List.drop_succ_cons]at h
    exact h
theorem zwS {l:List Ln} {nm:ByteArray} {g:jQ} (hs:Y8 l):Y8 (jB l nm g):=by
 unfold jB
 split
 ·exact hs
 ·have h1:Y8 (l.take (ltL nm l)):=hs.sublist (List.take_sublist ..)
  have h2:Y8 (l.drop (if qY nm l then ltL nm l+1 else ltL nm l)):=hs.sublist (List.drop_sublist ..)
  have h3:=zne (nm:=nm) (l:=l)
  have h4:=zm8 (nm:=nm) hs
  rw[List.append_assoc]
  refine List.pairwise_append.2 ⟨h1,List.pairwise_append.2 ⟨by split<;>simp,h2,?_⟩,?_⟩
  ·intro x hx y hy
   split at hx
   ·cases hx
   ·rw[List.mem_singleton]at hx;subst hx;exact h4 y hy
  ·intro x hx y hy
   rcases List.mem_append.1 hy with hy|hy
   ·split at hy
    ·cases hy
    ·rw[List.mem_singleton]at hy;subst hy;exact h3 x hx
   ·exact Zg (h3 x hx) (h4 y hy)
theorem zwM {nm:ByteArray} {l:List Ln} (h:qY nm l=true):ltL nm l<l.length:=by
 unfold qY at h
 rcases Nat.lt_or_ge (ltL nm l) l.length with hl|hl
 ·exact hl
 ·rw[List.drop_eq_nil_of_le hl]at h;cases h
theorem zwm {l:List Ln} {nm:ByteArray} {g:jQ} (h:l.length≤8):(jB l nm g).length≤8:=by
 unfold jB
 split
 ·exact h
 ·rename_i hc
  have hle:=zof nm l
  simp only[List.length_append,List.length_take,List.length_drop]
  cases hi:qY nm l
  ·cases hz:ZK g
   ·simp[hi,hz]at hc ⊢;omega
   ·simp;omega
  ·have:=zwM hi
   cases hz:ZK g<;>simp<;>omega
theorem zaF {a:Int} {h:Hf} {nm:ByteArray} {g:jQ} (hf:qQ a h=true) (hg:ZK g=true∨(jr nm=true∧Qd g.1 g.2.1 g.2.2 a h.peer=true)):qQ a (zaL h nm g)=true:=by
 obtain⟨h1,h2,h3,h4⟩:=z0.1 hf
 refine z0.2 ⟨h1,zwm h2,zwS h3,fun x hx=>?_⟩
 rcases zjl hx with hx|⟨rfl,hz⟩
 ·exact h4 x hx
 ·rcases hg with hg|⟨hn,hr⟩
  ·rw[hg]at hz;cases hz
  ·simp only[zdX,hn,zaL,hr,Bool.and_true,Bool.true_and,Bool.not_eq_true']
   simp only[ZK]at hz
   simpa using hz
theorem zqw {a:Int} {l:List Hf} (nm:ByteArray) (h:fitsH a l=true):fitsH a (Qy l nm)=true:=by
 obtain⟨h1,h2,h3⟩:=q8.1 h
 refine q8.2 ⟨?_,fun x hx=>?_,h3⟩
 ·unfold Qy SrtH;rw[List.pairwise_map];exact h1
 ·obtain⟨y,hy,rfl⟩:=List.mem_map.1 hx
  exact zaF (h2 y hy) (.inl rfl)
theorem ziV {a:Int} {h:Hf} (hf:qQ a h=true):qQ a (Yj h)=true:=by
 obtain⟨h1,h2⟩:=z0.1 hf
 refine z0.2 ⟨?_,h2⟩
 simp only[zcw,Yj]at h1 ⊢;grind
theorem zjv {a:Int} {h:Hf} (hf:qQ a h=true):qQ a (ZR h)=true:=by
 obtain⟨h1,h2⟩:=z0.1 hf
 refine z0.2 ⟨?_,h2⟩
 simp only[zcw,ZR]at h1 ⊢;grind
theorem zj0 {a:Int} {h:Hf} (hf:qQ a h=true):qQ a (Yc h)=true:=by
 obtain⟨h1,h2⟩:=z0.1 hf
 refine z0.2 ⟨?_,h2⟩
 simp only[zcw,Yc]at h1 ⊢;grind
theorem zjo {a p b lf:Int} (ha:nodeB a=true) (hp:nodeB p=true) (hne:a≠p) (hb:1≤b∧b≤1099511627776) (hl:0≤lf∧lf≤1099511627776):qQ a ⟨p,b,lf,[],false,0⟩=true:=
 z0.2 ⟨⟨ha,hp,hne,hb.1,hb.2,hl.1,hl.2,by simp,by simp,.inl (by simp)⟩,by simp,by simp[Y8],by simp⟩
theorem zlU {x:Int} (h: -9223372036854775808≤x∧x≤9223372036854775807):wr x=x:=yj h
theorem Zx {a:Int} {h:Hf} (hf:qQ a h=true):(yO h).2=1∧qQ a (yO h).1=true∧(yO h).1.peer=h.peer∧(yO h).1.boot=h.boot∧(yO h).1.life=h.life∧(yO h).1.lines=h.lines∧(yO h).1.pend=true∨(yO h).2=2:=by
 obtain⟨h1,h2⟩:=z0.1 hf
 have h1':=h1
 simp only[zcw]at h1
 have e:wr (h.miss+1)=h.miss+1:=yj (by omega)
 unfold yO
 cases hp:h.pend
 ·left
  refine⟨by simp,z0.2 ⟨?_,by simpa using h2⟩,by simp⟩
  simp only[zcw]at h1' ⊢;simp;grind
 ·rw[e]
  by_cases hm:3≤h.miss+1
  ·right;simp[hm]
  ·left
   refine⟨by simp[hm],z0.2 ⟨?_,by simpa[hm]using h2⟩,by simp[hm]⟩
   simp only[zcw]at h1' ⊢;simp[hm];grind
theorem znY {p:Int}: ∀ {l:List Sn},∀x∈l.take (Jl p l),x.id<p
 |[],x,h=>by simp at h
 | y::l,x,h=>by
  rw[ZT]at h
  split at h
  ·rename_i hy
   rw[Nat.add_comm,List.take_succ_cons]at h
   rcases List.mem_cons.1 h with rfl|h
   ·exact hy
   ·exact znY x h
  ·simp at h
theorem zmM {p:Int}: ∀ {l:List Sn},SrtS l→∀x∈l.drop (if isS p l then Jl p l+1 else Jl p l),p<x.id
 |[],_,x,h=>by simp at h
 | y::l,hs,x,h=>by
  have hs':=List.pairwise_cons.1 hs
  rw[zcH,ZT]at h
  by_cases hy:y.id<p
  ·rw[if_pos hy,if_pos hy]at h
   refine zmM hs'.2 x ?_
   split at h
   ·rename_i hi
    rw[hi];simp only[if_true]
    rw[show 1+Jl p l+1=(Jl p l+1)+1 by omega,List.drop_succ_cons]at h
    exact h
   ·rename_i hi
    simp only[hi,if_false]
    rw[Nat.add_comm,List.drop_succ_cons]at h
    exact h
  ·rw[if_neg hy,if_neg hy]at h
   by_cases hq:y.id=p
   ·simp only[hq,decide_true,if_true,Nat.zero_add,List.drop_succ_cons,List.drop_zero]at h
    have:=hs'.1 x h;omega
   ·simp only[hq,decide_false,Bool.false_eq_true,if_false,List.drop_zero]at h
    rcases List.mem_cons.1 h with rfl|h
    ·omega
    ·have:=hs'.1 x h;omega
theorem zco {l:List Sn} {s x:Sn} (hs:SrtS l):x∈qh l s↔(x=s∧¬(s.bt=0∧s.tm=0))∨(x∈l∧x.id≠s.id):=by
 have hd: ∀y∈l,y∈l.take (Jl s.id l)∨y.id=s.id∨y∈l.drop (if isS s.id l then Jl s.id l+1 else Jl s.id l):=fun y hy=>by
  rw[←List.take_append_drop (Jl s.id l) l]at hy
  rcases List.mem_append.1 hy with hy|hy
  ·exact .inl hy
  ·cases hi:isS s.id l
   ·right;right;simpa using hy
   ·obtain⟨hk,he⟩:=zaP hs hi
    rw[List.drop_eq_getElem_cons hk]at hy
    rcases List.mem_cons.1 hy with rfl|hy
    ·right;left;rw[he];exact Zk l s.id
    ·right;right;simpa using hy
 unfold qh
 rw[List.mem_append,List.mem_append]
 constructor
 ·rintro((h|h)|h)
  ·have:=znY x h;exact .inr ⟨List.mem_of_mem_take h,by omega⟩
  ·split at h
   ·cases h
   ·rename_i hz;exact .inl ⟨List.mem_singleton.1 h,hz⟩
  ·have:=zmM hs x h;exact .inr ⟨List.mem_of_mem_drop h,by omega⟩
 ·rintro(⟨rfl,hz⟩|⟨h,hn⟩)
  ·left;right;rw[if_neg hz];exact List.mem_singleton.2 rfl
  ·rcases hd x h with h|h|h
   ·exact .inl (.inl h)
   ·exact absurd h hn
   ·exact .inr h
theorem zgo {l:List Sn} {s:Sn} (hs:SrtS l):SrtS (qh l s):=by
 have h1:SrtS (l.take (Jl s.id l)):=hs.sublist (List.take_sublist ..)
 have h2:SrtS (l.drop (if isS s.id l then Jl s.id l+1 else Jl s.id l)):=hs.sublist (List.drop_sublist ..)
 have h3:=znY (p:=s.id) (l:=l)
 have h4:=zmM (p:=s.id) hs
 unfold qh
 rw[List.append_assoc]
 refine List.pairwise_append.2 ⟨h1,List.pairwise_append.2 ⟨by split<;>simp,h2,?_⟩,?_⟩
 ·intro x hx y hy
  split at hx
  ·cases hx
  ·rw[List.mem_singleton]at hx;subst hx;exact h4 y hy
 ·intro x hx y hy
  rcases List.mem_append.1 hy with hy|hy
  ·split at hy
   ·cases hy
   ·rw[List.mem_singleton]at hy;subst hy;exact h3 x hx
  ·have:=h3 x hx;have:=h4 y hy;omega
theorem zcP: ∀ {l:List Sn},SrtS l→∀ {x:Sn},x∈l→getS l x.id=x
 |[],_,x,h=>by cases h
 | y::l,hs,x,h=>by
  have hs':=List.pairwise_cons.1 hs
  rw[j0]
  rcases List.mem_cons.1 h with rfl|h
  ·rw[if_pos rfl]
  ·have:=hs'.1 x h
   rw[if_neg (by omega)]
   exact zcP hs'.2 h
theorem zjb {l:List Sn} {s:Sn} (hs:SrtS l) (hz: ¬(s.bt=0∧s.tm=0)):getS (qh l s) s.id=s:=
 zcP (zgo hs) ((zco hs).2 (.inl ⟨rfl,hz⟩))
theorem YL {l:List Sn} {s:Sn} {p:Int} (hs:SrtS l) (hp:p≠s.id):getS (qh l s) p=getS l p:=by
 by_cases h: ∃x∈l,x.id=p
 ·obtain⟨x,hx,rfl⟩:=h
  rw[zcP hs hx]
  exact zcP (zgo hs) ((zco hs).2 (.inr ⟨hx,hp⟩))
 ·have hn: ∀x∈l,x.id≠p:=fun x hx e=>h ⟨x,hx,e⟩
  rw[Je hn]
  refine Je fun x hx=>?_
  rcases(zco hs).1 hx with⟨rfl,_⟩|⟨hx,_⟩
  ·exact fun e=>hp e.symm
  ·exact hn x hx
theorem zeB {a:Int} {x:Sn}:okS a x=true↔nodeB x.id=true∧x.id≠a∧0≤x.bt∧x.bt≤1099511627776∧0≤x.sq∧x.sq≤1099511627776∧0≤x.tm∧x.tm≤1099511627776∧(x.bt=0→x.sq=0∧x.tm≠0):=by
 simp only[okS,Bool.and_eq_true,Bool.or_eq_true,Bool.not_eq_true',Bool.and_eq_false_iff,Bool.or_eq_false_iff,decide_eq_true_eq,decide_eq_false_iff_not]
 grind
theorem zh2 {a:Int} {l:List Sn} {s:Sn} (h:fitsS a l=true) (hs:okS a s=true):fitsS a (qh l s)=true:=by
 obtain⟨h1,h2,h3⟩:=ZD.1 h
 refine ZD.2 ⟨zgo h1,fun x hx=>?_,h3⟩
 rcases(zco h1).1 hx with⟨rfl,_⟩|⟨hx,_⟩
 ·exact hs
 ·exact h2 x hx
def zdg (a p:Int) (x:Sn):Prop:=x.id=p∧0≤x.bt∧x.bt≤1099511627776∧0≤x.sq∧x.sq≤1099511627776∧0≤x.tm∧x.tm≤1099511627776∧(x.bt=0→x.sq=0)
theorem zba {a:Int} {l:List Sn} (h:fitsS a l=true) (p:Int):zdg a p (getS l p):=by
 have hid:=Zk l p
 rcases zio (ZD.1 h).2.1 p with e|⟨_,e⟩
 ·rw[e];simp[zdg]
 ·have:=zeB.1 e
  exact⟨hid,by grind⟩
theorem zhC {a p b lf:Int} {l:List Sn} (h:fitsS a l=true) (hp:nodeB p=true) (hne:p≠a) (hb:1≤b∧b≤1099511627776) (hl:0≤lf∧lf≤1099511627776):okS a (ZZ (getS l p) b lf)=true:=by
 have hs:=zba h p
 have hid:=Zk l p
 simp only[zdg]at hs
 unfold ZZ
 split
 ·refine zeB.2 ?_
  simp only[hid]
  refine⟨hp,hne,by omega,by omega,by omega,by omega,by omega,by omega,fun e=>by omega⟩
 ·rename_i hlat
  rcases zio (ZD.1 h).2.1 p with e|⟨_,e⟩
  ·rw[e]at hlat;simp[latB]at hlat;omega
  ·exact e
theorem zqs {a p:Int} {l:List Sn} (h:fitsS a l=true) (hp:nodeB p=true) (hne:p≠a):okS a (QL (getS l p))=true:=by
 have hs:=zba h p
 have hid:=Zk l p
 simp only[zdg]at hs
 have e:wr ((getS l p).tm+1)=(getS l p).tm+1:=yj (by omega)
 refine zeB.2 ?_
 simp only[QL,hid,e]
 refine⟨hp,hne,by omega,by omega,by omega,by omega,?_,?_,fun e=>⟨by omega,?_⟩⟩<;>split<;>omega
theorem zil {id:Int}: ∀ {l pre:List Int},zaE id pre l=true↔(∀v∈l,nodeB v=true∧v≠id∧v∉pre)∧l.Nodup
 |[],pre=>by simp[zaE]
 | v::l,pre=>by
  have ih:=zil (id:=id) (l:=l) (pre:=pre++[v])
  simp only[zaE,Bool.and_eq_true,ih,decide_eq_true_eq,Bool.not_eq_true',decide_eq_false_iff_not,List.nodup_cons,List.mem_cons,forall_eq_or_imp,List.mem_append,List.mem_singleton,not_or]
  constructor
  ·rintro⟨⟨⟨h1,h2⟩,h3⟩,h4,h5⟩
   exact⟨⟨⟨h1,h2,h3⟩,fun x hx=>⟨(h4 x hx).1,(h4 x hx).2.1,(h4 x hx).2.2.1⟩⟩,fun hv=>by have:=(h4 v hv).2.2;simp at this,h5⟩
  ·rintro⟨⟨⟨h1,h2,h3⟩,h4⟩,h5,h6⟩
   refine⟨⟨⟨h1,h2⟩,h3⟩,fun x hx=>⟨(h4 x hx).1,(h4 x hx).2.1,(h4 x hx).2.2,fun e=>?_,by simp⟩,h6⟩
   subst e;exact h5 hx
theorem zU {id:Int} {l:List Int} {tn:Int}:wantB id l tn=true↔nodeB id=true∧l.length≤6∧0≤tn∧(tn=0∨tn<l.length)∧(∀v∈l,nodeB v=true∧v≠id)∧l.Nodup:=by
 simp only[wantB,Bool.and_eq_true,Bool.or_eq_true,decide_eq_true_eq,zil]
 simp[and_assoc]
theorem znw {id v tn:Int} {l:List Int} (h:wantB id l tn=true):wantB id (JU id l v).1 tn=true:=by
 unfold JU
 split
 ·exact h
 ·split
  ·exact h
  ·split
   ·exact h
   ·split
    ·exact h
    ·rename_i h1 h2 h3 h4
     obtain⟨g1,g2,g3,g4,g5,g6⟩:=zU.1 h
     have hv:nodeB v=true:=by simpa using h1
     refine zU.2 ⟨g1,by simp;omega,g3,by simp;omega,?_,?_⟩
     ·intro x hx
      rcases List.mem_append.1 hx with hx|hx
      ·exact g5 x hx
      ·rw[List.mem_singleton]at hx;subst hx;exact⟨hv,h2⟩
     ·rw[List.nodup_append];exact⟨g6,by simp,by intro a ha b hb;rw[List.mem_singleton]at hb;subst hb;rintro rfl;exact h3 ha⟩
theorem zrT {id v x:Int} {l:List Int} (h:x∈l):x∈(JU id l v).1:=by
 unfold JU
 repeat' split
 all_goals first|exact h|exact List.mem_append_left _ h
theorem zr7 {l:List Int} {tn v:Int}:ZI l tn v=if yX l v<0 then(l,tn,44)else(l.take (yX l v).toNat++l.drop ((yX l v).toNat+1),if((l.length - 1:Nat):Int)≤(if yX l v<tn then wr (tn - 1)else tn)then 0 else(if yX l v<tn then wr (tn - 1)else tn),0):=rfl
theorem zpk: ∀ {l:List Int} {v:Int} {k:Nat},yX l v=k→∃h:k<l.length,l[k]=v
 |[],v,k,h=>by simp[yX]at h
 | x::l,v,k,h=>by
  simp only[yX]at h
  split at h
  ·rename_i hx;have:k=0:=by omega
   subst this;exact⟨by simp,hx⟩
  ·have hg:=JN l v
   split at h
   ·omega
   ·obtain⟨j,rfl⟩: ∃j,k=j+1:=⟨k - 1,by omega⟩
    obtain⟨hl,e⟩:=zpk (l:=l) (v:=v) (k:=j) (by omega)
    exact⟨by simpa using hl,by simpa using e⟩
theorem zpM {l:List Int} {tn v x:Int} (hn:l.Nodup):x∈(ZI l tn v).1↔x∈l∧x≠v:=by
 rw[zr7]
 split
 ·rename_i h
  simp only
  constructor
  ·intro hx;refine⟨hx,?_⟩;rintro rfl;have:=zct.1 hx;omega
  ·exact fun h=>h.1
 ·rename_i h
  obtain⟨k,hk⟩: ∃k:Nat,yX l v=k:=⟨(yX l v).toNat,by omega⟩
  obtain⟨hl,e⟩:=zpk hk
  simp only[hk,Int.toNat_natCast]
  have e2:l=l.take k++l[k]::l.drop (k+1):=by rw[←List.drop_eq_getElem_cons hl,List.take_append_drop]
  have hn2:=hn
  rw[e2]at hn2
  rw[List.nodup_append]at hn2
  obtain⟨n1,n2,n3⟩:=hn2
  rw[List.nodup_cons]at n2
  constructor
  ·intro hx
   rcases List.mem_append.1 hx with hx|hx
   ·refine⟨List.mem_of_mem_take hx,?_⟩;rintro rfl;exact n3 _ hx _ (List.mem_cons_self ..) e.symm
   ·refine⟨List.mem_of_mem_drop hx,?_⟩;rintro rfl;rw[←e]at hx;exact n2.1 hx
  ·rintro⟨hx,hne⟩
   rw[e2]at hx
   rcases List.mem_append.1 hx with hx|hx
   ·exact List.mem_append_left _ hx
   ·rcases List.mem_cons.1 hx with hx|hx
    ·rw[e]at hx;exact absurd hx hne
    ·exact List.mem_append_right _ hx
theorem Y2 {id v tn:Int} {l:List Int} (h:wantB id l tn=true):wantB id (ZI l tn v).1 (ZI l tn v).2.1=true:=by
 obtain⟨g1,g2,g3,g4,g5,g6⟩:=zU.1 h
 have hm:=fun x=>zpM (tn:=tn) (v:=v) (x:=x) g6
 rw[zr7]at hm ⊢
 split
 ·exact h
 ·rename_i hi
  have hg:=JN l v
  obtain⟨k,hk⟩: ∃k:Nat,yX l v=k:=⟨(yX l v).toNat,by omega⟩
  have hkl:k<l.length:=by omega
  simp only[hk,Int.toNat_natCast]at hm hi ⊢
  rw[if_neg hi]at hm
  have hlen:(l.take k++l.drop (k+1)).length=l.length - 1:=by simp;omega
  have ew:wr (tn - 1)=tn - 1:=yj (by omega)
  rw[ew]
  refine zU.2 ⟨g1,by rw[hlen];omega,?_,?_,fun x hx=>g5 x ((hm x).1 hx).1,?_⟩
  ·split
   ·omega
   ·split<;>omega
  ·rw[hlen]
   by_cases hA:((l.length - 1:Nat):Int)≤(if(k:Int)<tn then tn - 1 else tn)
   ·left;rw[if_pos hA]
   ·right;rw[if_neg hA];split at hA<;>split<;>omega
  ·have:(l.take k++l.drop (k+1)).Sublist l:=by
    have:=List.eraseIdx_sublist l k
    rwa[List.eraseIdx_eq_take_drop_succ]at this
   exact g6.sublist this
theorem Qa {id tn:Int} {l:List Int} (h:wantB id l tn=true):wantB id l (yR l tn).2.1=true∧((yR l tn).2.2=true→(yR l tn).1∈l):=by
 obtain⟨g1,g2,g3,g4,g5,g6⟩:=zU.1 h
 unfold yR
 split
 ·rename_i h0;exact⟨h,by simp⟩
 ·rename_i h0
  have hk:tn.toNat<l.length:=by omega
  refine⟨zU.2 ⟨g1,g2,by simp only;omega,?_,g5,g6⟩,fun _=>?_⟩
  ·right;simp only
   exact Int.ofNat_lt.2 (Nat.mod_lt _ (by omega))
  ·simp only[List.getD_eq_getElem?_getD,List.getElem?_eq_getElem hk,Option.getD_some]
   exact List.getElem_mem hk
theorem QZ {s:Int} {a b:Ex} (ha:yQ a=true) (hb:yQ b=true):yQ (Zc s a b)=true:=by unfold Zc;split<;>assumption
theorem Qs {id:Int} {e:Ex} (h:yQ e=true):yQ (jR id e)=true:=by unfold jR;split;rfl;exact h
theorem zcL {e:Ex}:yQ e=true↔(e.has=true∧flowB e.val=true∧0≤e.org∧e.org<16∧0≤e.age∧e.age<64)∨e=noEx:=by
 obtain⟨h,v,o,g⟩:=e
 cases h<;>simp[yQ,and_assoc]
theorem zbX {e:Ex} (h:yQ e=true):yQ (JY e)=true:=by
 rcases zcL.1 h with⟨h1,h2,h3,h4,h5,h6⟩|rfl
 ·have ew:wr (e.age+1)=e.age+1:=yj (by omega)
  unfold JY
  rw[h1,ew]
  split
  ·rfl
  ·rename_i hn
   simp at hn
   exact zcL.2 (.inl ⟨rfl,h2,h3,h4,by simp only;omega,by simp only;omega⟩)
 ·rfl
theorem zca {id n:Int} (hi:0≤id∧id<16) (hn:flowB n=true):yQ (zao id n)=true:=zcL.2 (.inl ⟨rfl,hn,hi.1,hi.2,by simp[zao],by simp[zao]⟩)
theorem zpr {e:Ex} (h:yQ e=true):FX e:=by
 rcases zcL.1 h with⟨h1,h2,_⟩|rfl
 ·have:=ZQ h2
  exact⟨by unfold I62;omega,fun h=>by rw[h1]at h;cases h⟩
 ·exact⟨by simp[I62],fun _=>rfl⟩
theorem zlN {l:List Tt} {f:Tt→Tt} (hf: ∀x∈l,(f x).c=x.c):recT (l.map f)=recT l:=by
 unfold recT;rw[List.map_map];exact List.map_congr_left fun x hx=>hf x hx
theorem zcC {n:ByteArray} {f:Tt→Tt} (hf: ∀x,(f x).c=x.c): ∀(l:List Tt),recT (zcB n f l)=recT l
 |[]=>rfl
 |x::l=>by
  rw[zcB];split
  ·simp[hf]
  ·exact congrArg (x.c:: ·) (zcC (n:=n) hf l)
theorem zi9 {n:ByteArray} {f:Tt→Tt} {y:Tt}: ∀ {l:List Tt},y∈zcB n f l→y∈l∨∃x∈l,Jr n x=true∧y=f x
 |[],h=>by simp[zcB]at h
 | x::l,h=>by
  rw[zcB]at h;split at h
  ·rename_i hx
   rcases List.mem_cons.1 h with rfl|h
   ·exact .inr ⟨x,List.mem_cons_self ..,hx,rfl⟩
   ·exact .inl (List.mem_cons_of_mem _ h)
  ·rcases List.mem_cons.1 h with rfl|h
   ·exact .inl (List.mem_cons_self ..)
   ·rcases zi9 h with h|⟨z,hz,h⟩
    ·exact .inl (List.mem_cons_of_mem _ h)
    ·exact .inr ⟨z,List.mem_cons_of_mem _ hz,h⟩
theorem zH {a:Int} {l:List Tt}:fitsT a l=true↔0≤a∧a<16∧l.length≤8∧Qb (recT l)∧(∀x∈l,jC x.c=true)∧∀x∈l,fitT1 x=true:=by
 simp only[fitsT,Bool.and_eq_true,decide_eq_true_eq,Z7,List.all_eq_true,recT,List.length_map,List.mem_map,forall_exists_index,and_imp,forall_apply_eq_imp_iff₂]
 simp[and_assoc]
theorem yM {x:Tt}:fitT1 x=true↔(x.c.al=true∨(x.has=false∧zhp x=true))∧(x.has=true∨x.inp=0)∧flowB x.inp=true∧(x.c.kd=4∨zhp x=true)∧yQ x.mn=true∧yQ x.mx=true:=by
 simp only[fitT1,Bool.and_eq_true,Bool.or_eq_true,Bool.not_eq_true',decide_eq_true_eq,and_assoc]
theorem zqO (c:Ch):fitT1 (zbA c)=true:=by
 refine yM.2 ⟨.inr ⟨rfl,rfl⟩,.inr rfl,rfl,.inr rfl,rfl,rfl⟩
theorem zvS {x:Tt} (h:fitT1 x=true):FXT x:=by
 obtain⟨h1,h2,h3,h4,h5,h6⟩:=yM.1 h
 have:=ZQ h3
 exact⟨zpr h5,zpr h6,by unfold I62;omega⟩
theorem zbb {a:Int} {l:List Tt} (h:fitsT a l=true): ∀x∈l,FXT x:=fun x hx=>zvS ((zH.1 h).2.2.2.2.2 x hx)
theorem zoF {c:Ch} (h:jC c=true):1≤c.kd∧c.kd≤4∧1≤c.sc∧c.sc≤1048576:=by
 simp only[jC,zcQ,JF,Bool.and_eq_true,decide_eq_true_eq]at h;grind
theorem zeQ {a:Int} {l:List Tt} (h:fitsT a l=true): ∀x∈l,1≤x.c.kd∧x.c.kd≤4:=fun x hx=>by
 have:=zoF ((zH.1 h).2.2.2.2.1 x hx);omega
theorem zk2 {a:Int} {l:List Tt} (h:fitsT a l=true):EpC (recT l):=fun c hc=>by
 obtain⟨x,hx,rfl⟩:=List.mem_map.1 hc
 exact ziq ((zH.1 h).2.2.2.2.1 x hx)
theorem zsM {a:Int} {l:List Tt} (h:fitsT a l=true): ∀x∈l,x.c.nm.size≤1048576:=fun x hx=>by
 have:=(zH.1 h).2.2.2.2.1 x hx
 simp only[jC,Bool.and_eq_true]at this
 have:=zib this.1.1.1.1.1;omega
theorem zqn {a:Int} {l:List Tt} {f:Tt→Tt} (h:fitsT a l=true) (hf: ∀x∈l,(f x).c=x.c) (h1: ∀x∈l,jC x.c=true→fitT1 x=true→fitT1 (f x)=true):fitsT a (l.map f)=true:=by
 obtain⟨g1,g2,g3,g4,g5,g6⟩:=zH.1 h
 refine zH.2 ⟨g1,g2,by simpa using g3,by rw[zlN hf];exact g4,?_,?_⟩
 ·intro y hy;obtain⟨x,hx,rfl⟩:=List.mem_map.1 hy;rw[hf x hx];exact g5 x hx
 ·intro y hy;obtain⟨x,hx,rfl⟩:=List.mem_map.1 hy;exact h1 x hx (g5 x hx) (g6 x hx)
theorem zg4 {a:Int} {l:List Tt} {n:ByteArray} {f:Tt→Tt} (h:fitsT a l=true) (hf: ∀x,(f x).c=x.c) (h1: ∀x∈l,Jr n x=true→jC x.c=true→fitT1 x=true→fitT1 (f x)=true):fitsT a (zcB n f l)=true:=by
 obtain⟨g1,g2,g3,g4,g5,g6⟩:=zH.1 h
 have hr:=zcC (n:=n) hf l
 have hlen:(zcB n f l).length=l.length:=by have:=congrArg List.length hr;simpa using this
 refine zH.2 ⟨g1,g2,by rw[hlen];exact g3,by rw[hr];exact g4,?_,?_⟩
 ·intro y hy
  rcases zi9 hy with hy|⟨x,hx,_,rfl⟩
  ·exact g5 y hy
  ·rw[hf];exact g5 x hx
 ·intro y hy
  rcases zi9 hy with hy|⟨x,hx,hh,rfl⟩
  ·exact g6 y hy
  ·exact h1 x hx hh (g5 x hx) (g6 x hx)
theorem zp6 {id n:Int} {has:Bool} {a b:Ex} (hi:0≤id∧id<16) (hn:flowB n=true) (ha:yQ a=true) (hb:yQ b=true):yQ (zbZ id has n a b).1=true∧yQ (zbZ id has n a b).2=true:=by
 unfold zbZ;split
 ·exact⟨QZ (Qs (zbX ha)) (zca hi hn),QZ (Qs (zbX hb)) (zca hi hn)⟩
 ·exact⟨Qs (zbX ha),Qs (zbX hb)⟩
theorem zuw (id:Int) (x:Tt):(Za id x).c=x.c:=by unfold Za;split<;>rfl
theorem zm6 {a:Int} {l:List Tt} (h:fitsT a l=true):fitsT a (l.map (Za a))=true:=by
 obtain⟨g1,g2,_⟩:=zH.1 h
 refine zqn h (fun x _=>zuw a x) fun x _ hc hx=>?_
 unfold Za
 split
 ·rename_i hk
  obtain⟨h1,h2,h3,h4,h5,h6⟩:=yM.1 hx
  simp only[isX,Bool.and_eq_true,decide_eq_true_eq]at hk
  have:=zp6 (has:=x.has) ⟨g1,g2⟩ h3 h5 h6
  exact yM.2 ⟨.inl hk.1,h2,h3,.inl hk.2,this.1,this.2⟩
 ·exact hx
theorem QK {n:ByteArray} {x:Tt} (h:Jr n x=true):x.c.nm=n∧x.c.al=true:=by
 simp only[Jr,Bool.and_eq_true]at h;exact⟨zf3 h.1,h.2⟩
theorem zrz (id:Int) (c d:Ex) (x:Tt):(zqF id c d x).c=x.c:=by unfold zqF;split<;>rfl
theorem znQ {a id:Int} {n:ByteArray} {c d:Ex} {l:List Tt} (h:fitsT a l=true) (hc:yQ c=true) (hd:yQ d=true):fitsT a (zew id n c d l)=true:=by
 refine zg4 h (zrz id c d) fun x _ hh _ hx=>?_
 unfold zqF
 split
 ·rename_i hk
  obtain⟨h1,h2,h3,h4,h5,h6⟩:=yM.1 hx
  exact yM.2 ⟨.inl (QK hh).2,h2,h3,.inl hk,QZ h5 (Qs hc),QZ h6 (Qs hd)⟩
 ·exact hx
theorem zt3 (id v:Int) (x:Tt):(zrd id v x).c=x.c:=by unfold zrd;split<;>rfl
theorem zeZ {x y:Int} (h:(y0 x y).2=0):flowB (y0 x y).1=true:=by
 unfold y0 at h ⊢;split
 ·rename_i hc;simp only[Bool.and_eq_true]at hc;exact hc.2
 ·rename_i hc;rw[if_neg hc]at h;cases h
theorem zh5 {k x s:Int} (h:(qV k x s).2=0):flowB (qV k x s).1=true:=by
 unfold qV at h ⊢
 repeat' split at h
 all_goals first|exact absurd h (by decide)|skip
 all_goals simp only[*,if_true,if_false,not_true_eq_false,not_false_eq_true]at h ⊢
 all_goals first|exact zeZ h|skip
 all_goals simp_all
 all_goals first|exact zeZ h|skip
theorem zqo {a:Int} {n:ByteArray} {v:Int} {l:List Tt} (h:fitsT a l=true):fitsT a (QF a n v l).1=true:=by
 obtain⟨g1,g2,_⟩:=zH.1 h
 unfold QF
 split
 ·exact h
 ·split
  ·rename_i ht
   have hfl:=zh5 ht
   refine zg4 h (zt3 a _) fun x _ hh hc hx=>?_
   obtain⟨h1,h2,h3,h4,h5,h6⟩:=yM.1 hx
   unfold zrd
   split
   ·rename_i hk
    exact yM.2 ⟨.inl (QK hh).2,.inl rfl,hfl,.inl hk,QZ (Qs h5) (zca ⟨g1,g2⟩ hfl),QZ (Qs h6) (zca ⟨g1,g2⟩ hfl)⟩
   ·rename_i hk
    refine yM.2 ⟨.inl (QK hh).2,.inl rfl,hfl,?_,h5,h6⟩
    rcases h4 with h4|h4
    ·exact absurd h4 hk
    ·exact .inr h4
  ·exact h
theorem ze2 {c:Ch}: ∀ {l:List Ch},Qb l→Qb (jX false l c)
 |[],_=>by rw[YY];simp[Qb]
 | x ::l,hs=>by
  have hs':=List.pairwise_cons.1 hs
  rw[y5]
  cases hb:Op.bytesLess x.nm.toList c.nm.toList
  ·simp only[Bool.not_false,Bool.and_self,if_true,Bool.or_true]
   have hcx: ∀y∈(if(x.nm.toList==c.nm.toList)=true then []else [x]),Op.bytesLess c.nm.toList y.nm.toList=true:=fun y hy=>by
    split at hy
    ·cases hy
    ·rename_i hq;rw[List.mem_singleton]at hy;subst hy;exact zdr hb (by simpa using hq)
   have hcl: ∀y∈l,Op.bytesLess c.nm.toList y.nm.toList=true:=fun y hy=>by
    have h1:=hs'.1 y hy
    cases hq:x.nm.toList==c.nm.toList
    ·exact Zg (zdr hb (by simpa using hq)) h1
    ·have e:x.nm.toList=c.nm.toList:=by simpa using hq
     rw[←e];exact h1
   rw[zaT fun y hy=>zfV (hcl y hy)]
   rw[List.append_assoc,List.singleton_append]
   refine List.pairwise_cons.2 ⟨fun y hy=>?_,?_⟩
   ·rcases List.mem_append.1 hy with hy|hy
    ·exact hcx y hy
    ·exact hcl y hy
   ·split
    ·exact hs'.2
    ·exact hs
  ·have hne:(x.nm.toList==c.nm.toList)=false:=ztq hb
   simp only[hne,Bool.not_true,Bool.and_false,Bool.false_eq_true,if_false,Bool.or_false,List.nil_append,List.singleton_append]
   refine List.pairwise_cons.2 ⟨fun y hy=>?_,ze2 hs'.2⟩
   rcases YZ hy with rfl|⟨hy,_⟩
   ·exact hb
   ·exact hs'.1 y hy
theorem zhD {c y:Ch}: ∀ {d:Bool} {l:List Ch},y∈l→(y.nm.toList==c.nm.toList)=true→(jX d l c).length+1≤l.length+(if d then 0 else 1)
 |d,[],h,_=>by cases h
 | d,x::l,h,hq=>by
  rw[y5]
  have h1:=Q7 c (d|| !Op.bytesLess x.nm.toList c.nm.toList) l
  rcases List.mem_cons.1 h with rfl|h
  ·rw[hq]
   cases d<;>cases hb:Op.bytesLess y.nm.toList c.nm.toList<;>simp[hb]at h1 ⊢<;>omega
  ·have h2:=zhD (d:=d|| !Op.bytesLess x.nm.toList c.nm.toList) h hq
   cases hx:x.nm.toList==c.nm.toList<;>cases d<;>cases hb:Op.bytesLess x.nm.toList c.nm.toList<;>simp[hb]at h2 ⊢<;>omega
theorem zaM {l:List Ch} {c:Ch} (h:Z5 l=true) (hc:jC c=true) (hr:(z5 l c.nm).2=true∨l.length<8):Z5 (jX false l c)=true:=by
 obtain⟨h1,h2,h3⟩:=Z7.1 h
 refine Z7.2 ⟨?_,ze2 h2,fun x hx=>?_⟩
 ·rcases hr with hr|hr
  ·rcases hf:z5 l c.nm with⟨o,b⟩
   rw[hf]at hr;simp only at hr;subst hr
   obtain⟨hm,hn⟩:=Zu hf
   have:=zhD (d:=false) (c:=c) hm (by rw[hn];simp)
   simp at this;omega
  ·have:=Q7 c false l;simp at this;omega
 ·rcases YZ hx with rfl|⟨hx,_⟩
  ·exact hc
  ·exact h3 x hx
theorem zcA {l:List Tt}: ∀ {r:List Ch},recT (JM l r)=r:=by
 intro r;unfold recT JM;rw[List.map_map]
 have: ∀c∈r,((fun x:Tt=>x.c)∘fun c=>pkB c l (zbA c)) c=c:=fun c _=>by
  simp only[Function.comp]
  have hp: ∀(l:List Tt) (s:Tt),s.c=c→(pkB c l s).c=c:=by
   intro l
   induction l with
   |nil=>intro s hs;exact hs
   |cons x l ih=>
    intro s hs;rw[zap]
    refine ih _ ?_
    split
    ·rename_i hx;exact ziF hx
    ·exact hs
  exact hp l _ rfl
 rw[List.map_congr_left this];simp
theorem zo8 {c:Ch}: ∀ {l:List Tt} {s:Tt},pkB c l s=s∨(pkB c l s∈l∧(pkB c l s).c=c)
 |[],s=>.inl rfl
 | x::l,s=>by
  rw[zap]
  rcases zo8 (c:=c) (l:=l) (s:=if zel x.c c then x else s)with h|⟨h,hc⟩
  ·split at h
   ·rename_i hx
    right;rw[if_pos hx,h];exact⟨List.mem_cons_self ..,ziF hx⟩
   ·rename_i hx
    left;rw[if_neg hx,h]
  ·right;exact⟨List.mem_cons_of_mem _ h,hc⟩
theorem zkK {l:List Tt} {r:List Ch} {x:Tt} (h:x∈JM l r):(x=zbA x.c∧x.c∈r)∨(x∈l∧x.c∈r):=by
 obtain⟨c,hc,rfl⟩:=List.mem_map.1 h
 rcases zo8 (c:=c) (l:=l) (s:=zbA c)with h|⟨h,hq⟩
 ·left;rw[h];exact⟨rfl,hc⟩
 ·right;exact⟨h,by rw[hq];exact hc⟩
theorem zdI {a:Int} {l:List Tt} {r:List Ch} (h:fitsT a l=true) (hr:Z5 r=true):fitsT a (JM l r)=true:=by
 obtain⟨g1,g2,g3,g4,g5,g6⟩:=zH.1 h
 obtain⟨r1,r2,r3⟩:=Z7.1 hr
 refine zH.2 ⟨g1,g2,by rw[zkP];exact r1,by rw[zcA];exact r2,?_,?_⟩
 ·intro x hx
  rcases zkK hx with⟨_,h⟩|⟨_,h⟩<;>exact r3 _ h
 ·intro x hx
  rcases zkK hx with⟨e,_⟩|⟨h,_⟩
  ·rw[e];exact zqO _
  ·exact g6 x h
theorem ziH {a:Int} {l:List Tt} (h:fitsT a l=true):Z5 (recT l)=true:=by
 simp only[fitsT,Bool.and_eq_true]at h;exact h.1.2
theorem zm7 {l:List Ch} {c:Ch} (h:Z5 l=true) (hc:jC c=true):Z5 (yx l c).1=true:=by
 unfold yx
 simp only
 cases ho:(z5 l c.nm).2
 ·simp only[Bool.not_false,Bool.true_and,decide_eq_true_eq,if_true]
  split
  ·exact h
  ·rename_i h8;exact zaM h hc (.inr (by omega))
 ·simp only[Bool.not_true,Bool.false_and,Bool.false_eq_true,if_false]
  repeat' split
  all_goals first|exact h|exact zaM h hc (.inl ho)
theorem zai {a:Int} {l:List Tt} {c:Ch} (h:fitsT a l=true) (hc:jC c=true):fitsT a (Qw l c).1=true:=by
 unfold Qw;split
 ·exact zdI h (zm7 (ziH h) hc)
 ·exact h
theorem zp7 {l:List Ch} {n:ByteArray} (h:Z5 l=true) (ho:(z5 l n).2=true):jC (z5 l n).1=true∧(z5 l n).1.nm=n:=by
 rcases hf:z5 l n with⟨o,b⟩
 rw[hf]at ho;simp only at ho;subst ho
 obtain⟨hm,hn⟩:=Zu hf
 exact⟨(Z7.1 h).2.2 _ hm,hn⟩
theorem zkd {l:List Ch} {mk kd sc:Int} {nm:ByteArray} (h:Z5 l=true) (hm:nodeB mk=true) (h0:(yD l mk nm kd sc).2=0):Z5 (yD l mk nm kd sc).1=true:=by
 have hep:=Ja (l:=l) (fun x hx=>ziq ((Z7.1 h).2.2 x hx)) nm
 unfold yD at h0 ⊢
 simp only at h0 ⊢
 repeat' split
 all_goals first|exact h|skip
 rename_i h1 h2 h3 h4 h5 h6
 simp only[Bool.not_eq_true',Bool.not_eq_false]at h1 h2 h3
 simp only[decide_eq_true_eq]at h6
 have ew:wr ((z5 l nm).1.ep+1)=(z5 l nm).1.ep+1:=yj (by omega)
 refine zaM h ?_ ?_
 ·simp only[jC,ew,h1,h2,h3,hm,Bool.and_eq_true,decide_eq_true_eq];simp;omega
 ·simp only
  cases ho:(z5 l nm).2
  ·right;simp[ho]at h5;omega
  ·left;rfl
theorem zj8 {l:List Ch} {mk:Int} {nm:ByteArray} (h:Z5 l=true) (hm:nodeB mk=true) (h0:(yF l mk nm).2=0):Z5 (yF l mk nm).1=true:=by
 have hep:=Ja (l:=l) (fun x hx=>ziq ((Z7.1 h).2.2 x hx)) nm
 unfold yF at h0 ⊢
 simp only at h0 ⊢
 repeat' split
 all_goals first|exact h|skip
 rename_i h1 h2
 simp only[decide_eq_true_eq]at h2
 simp only[Bool.or_eq_true,Bool.not_eq_true',not_or,Bool.not_eq_false]at h1
 obtain⟨hf,hn⟩:=zp7 h h1.1
 have ew:wr ((z5 l nm).1.ep+1)=(z5 l nm).1.ep+1:=yj (by omega)
 refine zaM h ?_ (.inl (by simp only;rw[hn];exact h1.1))
 simp only[jC,ew,hm,Bool.and_eq_true,decide_eq_true_eq]at hf ⊢
 simp;exact⟨⟨⟨⟨hf.1.1.1.1.1,by omega⟩,by omega⟩,hf.1.2⟩,hf.2⟩
theorem jj {a:Int} {l:List Tt} {kd sc:Int} {nm:ByteArray} (h:fitsT a l=true):fitsT a (zdk l a nm kd sc).1=true:=by
 have hm:nodeB a=true:=qd.2 ⟨(zH.1 h).1,(zH.1 h).2.1⟩
 unfold zdk;split
 ·rename_i h0;exact zdI h (zkd (ziH h) hm h0)
 ·exact h
theorem jl {a:Int} {l:List Tt} {nm:ByteArray} (h:fitsT a l=true):fitsT a (zdt l a nm).1=true:=by
 have hm:nodeB a=true:=qd.2 ⟨(zH.1 h).1,(zH.1 h).2.1⟩
 unfold zdt;split
 ·rename_i h0;exact zdI h (zj8 (ziH h) hm h0)
 ·exact h
structure zQ where
 id:Int
 bt:Int
 tk:Int
 want:List Int
 tn:Int
 seen:List Sn
 hv:List Hf
 ch:List Tt
structure qO where
 kd:Int
 fr:Int
 to:Int
 bt:Int
 lf:Int
 ec:Int
 el:Int
 its:List It
structure ZF where
 kd:Int
 pr:Int
 nm:ByteArray
 num:Int
structure Wk where
 n:zQ
 ps:List qO
 es:List ZF
def zQ.hvS (n:zQ) (l:List Hf):zQ:=⟨n.id,n.bt,n.tk,n.want,n.tn,n.seen,l,n.ch⟩
def zQ.chS (n:zQ) (l:List Tt):zQ:=⟨n.id,n.bt,n.tk,n.want,n.tn,n.seen,n.hv,l⟩
def zQ.seS (n:zQ) (l:List Sn):zQ:=⟨n.id,n.bt,n.tk,n.want,n.tn,l,n.hv,n.ch⟩
def zQ.tnS (n:zQ) (t:Int):zQ:=⟨n.id,n.bt,n.tk,n.want,t,n.seen,n.hv,n.ch⟩
def zQ.waS (n:zQ) (l:List Int):zQ:=⟨n.id,n.bt,n.tk,l,n.tn,n.seen,n.hv,n.ch⟩
attribute [simp] zQ.hvS zQ.chS zQ.seS zQ.tnS zQ.waS
abbrev yI:ByteArray:=⟨#[]⟩
def YW (w:Wk) (e:ZF):Wk:=⟨w.n,w.ps,w.es++[e]⟩
def zpz (w:Wk) (p:qO):Wk:=⟨w.n,w.ps++[p],w.es⟩
def Q4 (w:Wk) (h:Hf):Wk:=⟨w.n.hvS (qu w.n.hv h),w.ps,w.es⟩
attribute [simp] YW zpz Q4
def yU (n:zQ) (p:Int):zQ:=(n.hvS (ZM p false n.hv).1).seS (qh n.seen (QL (getS n.seen p)))
def zbh (w:Wk) (p why:Int):Wk:=⟨yU w.n p,w.ps,w.es++[⟨2,p,yI,why⟩]⟩
attribute [simp] yU zbh
def ZB (n:zQ) (h:Hf) (peer:Int) (rests:Bool) (s:Tt):It:=
 if s.c.al&&QQ s.c.kd then
  (if rests&&decide ((Yt n.id s.inp n.hv s.c.nm peer).2=0)
   then⟨s.c,(findL s.c.nm h.lines).1,(findL s.c.nm h.lines).2.1,(findL s.c.nm h.lines).2.2,true,(Yt n.id s.inp n.hv s.c.nm peer).1,noEx,noEx⟩
   else⟨s.c,(findL s.c.nm h.lines).1,(findL s.c.nm h.lines).2.1,(findL s.c.nm h.lines).2.2,false,0,noEx,noEx⟩)
 else if s.c.al&&decide (s.c.kd=4)then⟨s.c,0,0,0,false,0,s.mn,s.mx⟩else⟨s.c,0,0,0,false,0,noEx,noEx⟩
def qa (n:zQ) (peer:Int) (rests:Bool):List It:=n.ch.map (ZB n (findH peer n.hv).1 peer rests)
def jS (n:zQ) (kd peer ec el:Int) (its:List It):qO:=⟨kd,n.id,peer,n.bt,(getS n.seen peer).tm,ec,el,its⟩
def zbc (peer:Int) (x:It):List ZF:=if x.c.al&&QQ x.c.kd&& !x.hr then [⟨4,peer,x.c.nm,0⟩]else []
def J0 (n:zQ) (p:Int):zQ:=n.hvS (qu n.hv (Yj (findH p n.hv).1))
def qP (w:Wk) (p:Int):Wk:=
 ⟨J0 w.n p,w.ps++[jS (J0 w.n p) 3 p (findH p w.n.hv).1.boot (findH p w.n.hv).1.life (qa (J0 w.n p) p true)],w.es++(qa (J0 w.n p) p true).flatMap (zbc p)⟩
def yg (w:Wk):List Int→Wk
 |[]=>w
 |p::l=>yg (qP w p) l
def jA (w:Wk) (c:Ch):Wk:=⟨w.n.hvS (Qy w.n.hv c.nm),w.ps,w.es++[⟨5,0,c.nm,c.ep⟩]⟩
def qU (w:Wk) (b:Bool):List It→Wk×Bool
 |[]=>(w,b)
 |x::l=>if(Qw w.n.ch x.c).2 then qU (jA ⟨w.n.chS (Qw w.n.ch x.c).1,w.ps,w.es⟩ x.c) true l else qU w b l
def Yp (w:Wk) (fr:Int) (x:It):Wk:=
 let o:=Yt w.n.id (findT x.c.nm w.n.ch).1.inp w.n.hv x.c.nm fr
 let h:=(findH fr w.n.hv).1
 let g:=findL x.c.nm h.lines
 let b:=zbq w.n.id fr g.1 g.2.1 g.2.2 o.1 x.rs
 if o.2≠0 then YW w ⟨4,fr,x.c.nm,0⟩
 else if b.2.2≠0 then YW w ⟨4,fr,x.c.nm,0⟩
 else if b.2.1≠0 then YW (Q4 w (zaL h x.c.nm b.1)) ⟨3,fr,x.c.nm,b.2.1⟩
 else w
def yZ (w:Wk) (kd fr:Int) (x:It):Wk:=
 if !JL w.n.ch x.c then w
 else if(findT x.c.nm w.n.ch).1.c.kd=4 then⟨w.n.chS (zew w.n.id x.c.nm x.mn x.mx w.n.ch),w.ps,w.es⟩
 else if decide (kd=3)&&x.hr then Yp (Q4 w (QG w.n.id (findH fr w.n.hv).1 x.c.nm (x.ve,x.wt,x.fl)).1) fr x
 else Q4 w (QG w.n.id (findH fr w.n.hv).1 x.c.nm (x.ve,x.wt,x.fl)).1
def yo (w:Wk) (kd fr:Int):List It→Wk
 |[]=>w
 |x::l=>yo (yZ w kd fr x) kd fr l
def J1 (w:Wk) (fr bt lf:Int):Wk:=zpz w (jS w.n 4 fr bt lf (qa w.n fr false))
def jJ (n:zQ) (kd fr bt lf:Int):Hf:=
 let h:=if Z4 (findH fr n.hv) bt lf then⟨fr,bt,lf,[],false,0⟩else ZR (findH fr n.hv).1
 if kd=4 then Yc h else h
def qf (w:Wk) (kd fr bt lf:Int):Wk:=
 Q4 (if Z4 (findH fr w.n.hv) bt lf then YW w ⟨1,fr,yI,bt⟩else w) (jJ w.n kd fr bt lf)
def YA (w:Wk) (learned begun:Bool) (fr:Int):Wk:=yg w ((qg w.n.hv).filter fun q=>learned||(begun&&decide (q=fr)))
def ZL (w:Wk) (p:qO):Wk:=
 let r:=qU (qf w p.kd p.fr p.bt p.lf) false p.its
 let w3:=yo r.1 p.kd p.fr p.its
 YA (if p.kd=3 then J1 w3 p.fr p.bt p.lf else w3) r.2 (Z4 (findH p.fr w.n.hv) p.bt p.lf) p.fr
def ZV:Option ByteArray→List It→Bool
 | _,[]=>true
 |o,x::l=>itmB x&&(match o with|none=>true|some q=>Op.bytesLess q.toList x.c.nm.toList)&&ZV (some x.c.nm) l
def jb (p:qO):Bool:=decide (1≤p.kd)&&decide (p.kd≤5)&&nodeB p.fr&&nodeB p.to&& !decide (p.fr=p.to)&&Zo p.bt 1 1099511627776&&Zo p.lf 0 1099511627776&&
 (if p.kd=1 then decide (p.ec=0)&&decide (p.el=0)else Zo p.ec 1 1099511627776&&Zo p.el 0 1099511627776)&&
 (if p.kd=3∨p.kd=4 then decide (p.its.length≤8)&&ZV none p.its else decide (p.its.length=0))
def zem (w:Wk) (p:qO):Wk:=YW w ⟨6,p.fr,yI,p.kd⟩
def qW (n:zQ) (p:qO):zQ:=n.seS (qh n.seen (ZZ (getS n.seen p.fr) p.bt p.lf))
attribute [simp] qW
def Q9 (n:zQ) (p:qO):Wk:=
 if¬p.kd=5 then ZL ⟨qW n p,[],[]⟩ p
 else if ziy (findH p.fr n.hv) p.bt p.lf then zbh ⟨qW n p,[],[]⟩ p.fr 2 else zem ⟨qW n p,[],[]⟩ p
def jp (n:zQ) (p:qO):Wk:=
 let j:=j9 (getS n.seen p.fr) n.bt p.kd p.bt p.lf p.ec p.el
 if !jb p||decide (p.to≠n.id)|| !decide (p.fr∈n.want)then zem ⟨n,[],[]⟩ p
 else if j=3 then⟨n,[⟨2,n.id,p.fr,n.bt,(getS n.seen p.fr).tm,p.bt,p.lf,[]⟩],[]⟩
 else if j=2 then Q9 n p
 else zem ⟨n,[],[]⟩ p
def zad (x:Int):Int:=if wr (x+1)≤1099511627776 then wr (x+1)else 1099511627776
def jH (n:zQ) (v:Int):qO:=⟨1,n.id,v,n.bt,(getS n.seen v).tm,0,0,[]⟩
def tickN (n:zQ):zQ:=⟨n.id,n.bt,zad n.tk,n.want,n.tn,n.seen,n.hv,n.ch.map (Za n.id)⟩
attribute [simp] tickN
def tickW (n:zQ):Wk:=
 let v:=(yR n.want n.tn).1
 let m:=(tickN n).tnS (yR n.want n.tn).2.1
 if !(yR n.want n.tn).2.2 then⟨tickN n,[],[]⟩
 else if !(findH v n.hv).2 then⟨m,[jH m v],[]⟩
 else if(yO (findH v n.hv).1).2=1 then qP ⟨m.hvS (qu n.hv (yO (findH v n.hv).1).1),[],[]⟩ v
 else⟨yU m v,[jH (yU m v) v],[⟨2,v,yI,1⟩]⟩
def zd0 (n:zQ) (v:Int):Wk×Int:=(⟨n.waS (JU n.id n.want v).1,[],[]⟩,(JU n.id n.want v).2)
def jz (n:zQ) (v:Int):Wk×Int:=
 let u:=ZI n.want n.tn v
 let m:=(n.waS u.1).tnS u.2.1
 let h:=findH v n.hv
 if u.2.2≠0 then(⟨n,[],[]⟩,u.2.2)
 else if h.2 then(zbh ⟨m,[jS m 5 v h.1.boot h.1.life []],[]⟩ v 3,0)else(⟨m,[],[]⟩,0)
def madeL (w:Wk) (nm:ByteArray):List Tt→Wk
 |[]=>w
 |x::l=>if x.c.nm.toList==nm.toList then madeL (jA w x.c) nm l else madeL w nm l
def ZG (n:zQ) (nm:ByteArray) (r:List Tt×Int):Wk×Int:=
 if r.2≠0 then(⟨n,[],[]⟩,r.2)
 else(let w:=madeL ⟨n.chS r.1,[],[]⟩ nm r.1;yg w (qg w.n.hv),0)
def zi3 (n:zQ) (nm:ByteArray) (kd sc:Int):Wk×Int:=ZG n nm (zdk n.ch n.id nm kd sc)
def zkj (n:zQ) (nm:ByteArray):Wk×Int:=ZG n nm (zdt n.ch n.id nm)
def zer (n:zQ) (nm:ByteArray) (v:Int):zQ×Int:=(n.chS (QF n.id nm v n.ch).1,(QF n.id nm v n.ch).2)
structure zy (n:zQ):Prop where
 bt:1≤n.bt∧n.bt≤1099511627776
 tk:0≤n.tk∧n.tk≤1099511627776
 want:wantB n.id n.want n.tn=true
 seen:fitsS n.id n.seen=true
 hv:fitsH n.id n.hv=true
 ch:fitsT n.id n.ch=true
theorem zy.idB {n:zQ} (h:zy n):nodeB n.id=true:=(q8.1 h.hv).2.2
theorem zy.hvS {n:zQ} {l:List Hf} (h:zy n) (hl:fitsH n.id l=true):zy (n.hvS l):=⟨h.bt,h.tk,h.want,h.seen,hl,h.ch⟩
theorem zy.chS {n:zQ} {l:List Tt} (h:zy n) (hl:fitsT n.id l=true):zy (n.chS l):=⟨h.bt,h.tk,h.want,h.seen,h.hv,hl⟩
theorem zy.seS {n:zQ} {l:List Sn} (h:zy n) (hl:fitsS n.id l=true):zy (n.seS l):=⟨h.bt,h.tk,h.want,hl,h.hv,h.ch⟩
theorem zy.srt {n:zQ} (h:zy n):SrtH n.hv:=(q8.1 h.hv).1
theorem zy.rng {n:zQ} (h:zy n):RngH n.hv:=zii h.hv
theorem zy.hok {n:zQ} (h:zy n):HOk n.hv:=zum h.hv
theorem zy.srtS {n:zQ} (h:zy n):SrtS n.seen:=(ZD.1 h.seen).1
theorem zy.find {n:zQ} (h:zy n) {p:Int} (hp:hasP p n.hv=true):qQ n.id (findH p n.hv).1=true∧(findH p n.hv).1.peer=p∧(findH p n.hv).1∈n.hv:=by
 rcases hf:findH p n.hv with⟨x,b⟩
 have:b=true:=by rw[hasP,hf]at hp;exact hp
 subst this
 obtain⟨hm,he⟩:=Jx hf
 exact⟨(q8.1 h.hv).2.1 x hm,he,hm⟩
theorem Zh {p:Int} {l:List Hf} {h:Hf}:hasP p (qu l h)=true↔p=h.peer∨hasP p l=true:=by
 have key: ∀ {p:Int} {l:List Hf},hasP p l=true↔∃x∈l,x.peer=p:=by
  intro p l
  constructor
  ·intro hp
   rcases hf:findH p l with⟨x,b⟩
   have:b=true:=by rw[hasP,hf]at hp;exact hp
   subst this
   obtain⟨hm,he⟩:=Jx hf
   exact⟨x,hm,he⟩
  ·rintro⟨x,hx,he⟩
   cases hb:hasP p l
   ·exact absurd he ((Qv (by rw[←hb];rfl)).2 x hx)
   ·rfl
 rw[key,key]
 constructor
 ·rintro⟨x,hx,he⟩
  rcases Jp.1 hx with rfl|⟨hx,_⟩
  ·exact .inl he.symm
  ·exact .inr ⟨x,hx,he⟩
 ·rintro(rfl|⟨x,hx,he⟩)
  ·exact⟨h,Jp.2 (.inl rfl),rfl⟩
  ·by_cases hp:x.peer=h.peer
   ·exact⟨h,Jp.2 (.inl rfl),by rw[←hp];exact he⟩
   ·exact⟨x,Jp.2 (.inr ⟨hx,hp⟩),he⟩
theorem yP {p:Int} {l:List Hf}:hasP p l=true↔p∈qg l:=by
 constructor
 ·intro hp
  rcases hf:findH p l with⟨x,b⟩
  have:b=true:=by rw[hasP,hf]at hp;exact hp
  subst this
  obtain⟨hm,he⟩:=Jx hf
  exact List.mem_map.2 ⟨x,hm,he⟩
 ·intro hp
  obtain⟨x,hx,he⟩:=List.mem_map.1 hp
  cases hb:hasP p l
  ·exact absurd he ((Qv (by rw[←hb];rfl)).2 x hx)
  ·rfl
theorem zy.keep {n:zQ} {h:Hf} (hf:zy n) (hh:qQ n.id h=true):zy (n.hvS (qu n.hv h)):=hf.hvS (zp9 hf.hv hh)
theorem zy.ask {n:zQ} {p:Int} (h:zy n) (hp:hasP p n.hv=true):zy (J0 n p):=h.keep (ziV (h.find hp).1)
theorem zpp {n:zQ} {p q:Int} (h:zy n) (hp:hasP p n.hv=true):hasP q (J0 n p).hv=hasP q n.hv:=by
 have he:=(h.find hp).2.1
 have:(Yj (findH p n.hv).1).peer=p:=he
 have k:=Zh (p:=q) (l:=n.hv) (h:=Yj (findH p n.hv).1)
 rw[this]at k
 show hasP q (qu n.hv (Yj (findH p n.hv).1))=hasP q n.hv
 cases hq:hasP q n.hv
 ·cases hq2:hasP q (qu n.hv (Yj (findH p n.hv).1))
  ·rfl
  ·rw[hq2]at k
   rcases k.1 rfl with rfl|k
   ·rw[hp]at hq;cases hq
   ·rw[hq]at k;cases k
 ·exact k.2 (.inr hq)
theorem zy.drop {n:zQ} {p:Int} (h:zy n) (hp:nodeB p=true) (hne:p≠n.id):zy (yU n p):=
 (h.hvS (zqv p h.hv)).seS (zh2 h.seen (zqs h.seen hp hne))
theorem zy.frsh {n:zQ} {nm:ByteArray} (h:zy n):zy (n.hvS (Qy n.hv nm)):=h.hvS (zqw nm h.hv)
theorem zri (l:List Hf) (nm:ByteArray):qg (Qy l nm)=qg l:=by unfold qg Qy;rw[List.map_map];rfl
theorem ztO (l:List Hf) (nm:ByteArray) (p:Int):hasP p (Qy l nm)=hasP p l:=by
 have:hasP p (Qy l nm)=true↔hasP p l=true:=by rw[yP,yP,zri]
 cases h1:hasP p (Qy l nm)<;>cases h2:hasP p l<;>simp_all
theorem y8 {x:It} (h:itmB x=true):jC x.c=true:=by simp only[itmB,Bool.and_eq_true]at h;exact h.1.1
theorem zfc {x:It} (h:itmB x=true):yQ x.mn=true∧yQ x.mx=true:=by
 simp only[itmB,Bool.and_eq_true]at h
 have h2:=h.2
 have hz: ∀ {e:Ex},zrX e=true→yQ e=true:=fun {e} he=>by simp only[zrX,Bool.and_eq_true,Bool.not_eq_true',decide_eq_true_eq]at he;simp[yQ,he]
 split at h2
 ·simpa using h2
 ·simp only[Bool.and_eq_true]at h2;exact⟨hz h2.1,hz h2.2⟩
theorem zFE {l:List Tt} {c:Ch}:(Qw l c).2=true→(Qw l c).1=JM l (yx (recT l) c).1:=by
 unfold Qw;split<;>simp
theorem zy.lrn1 {w:Wk} {c:Ch} (h:zy w.n) (hc:jC c=true):zy (jA ⟨w.n.chS (Qw w.n.ch c).1,w.ps,w.es⟩ c).n:=(h.chS (zai h.ch hc)).frsh
theorem zzo {v w f a b am wt:Int} (h:(Yu v w f a b am wt).2=0):Qd (Yu v w f a b am wt).1.1 (Yu v w f a b am wt).1.2.1 (Yu v w f a b am wt).1.2.2 b a=true:=by
 unfold Yu at h ⊢
 repeat' split at h
 all_goals first|exact absurd h (by decide)|skip
 all_goals simp only[*,if_true,if_false,Bool.false_eq_true]
 all_goals grind[Qd,flowB,zaC]
theorem zvT {me p v w f rest told:Int} (h:(zbq me p v w f rest told).2.2=0):Qd (zbq me p v w f rest told).1.1 (zbq me p v w f rest told).1.2.1 (zbq me p v w f rest told).1.2.2 me p=true:=by
 unfold zbq at h ⊢
 split
 ·rename_i h1;rw[if_pos h1]at h;exact absurd h h1
 ·rename_i h1
  rw[if_neg h1]at h
  split
  ·rename_i h2;rw[if_pos h2]at h;exact absurd h h2
  ·rename_i h2;exact zzo (by simpa using h2)
structure Qz (m n:zQ):Prop where
 id:n.id=m.id
 bt:n.bt=m.bt
 want:n.want=m.want
theorem Qz.refl (n:zQ):Qz n n:=⟨rfl,rfl,rfl⟩
theorem Qz.trans {a b c:zQ} (h1:Qz a b) (h2:Qz b c):Qz a c:=⟨h2.id.trans h1.id,h2.bt.trans h1.bt,h2.want.trans h1.want⟩
structure J4 (m n:zQ):Prop where
 k:zy n
 has: ∀p,hasP p n.hv=hasP p m.hv
 s:Qz m n
 seen:n.seen=m.seen
theorem J4.refl {n:zQ} (h:zy n):J4 n n:=⟨h,fun _=>rfl,.refl n,rfl⟩
theorem J4.trans {a b c:zQ} (h1:J4 a b) (h2:J4 b c):J4 a c:=⟨h2.k,fun p=>(h2.has p).trans (h1.has p),h1.s.trans h2.s,h2.seen.trans h1.seen⟩
theorem ziO {l:List Hf} {h:Hf} (hp:hasP h.peer l=true) (q:Int):hasP q (qu l h)=hasP q l:=by
 have k:=Zh (p:=q) (l:=l) (h:=h)
 cases hq:hasP q l
 ·cases hq2:hasP q (qu l h)
  ·rfl
  ·rw[hq2]at k
   rcases k.1 rfl with rfl|k
   ·rw[hp]at hq;cases hq
   ·rw[hq]at k;cases k
 ·exact k.2 (.inr hq)
theorem ze0 {w:Wk} {h:Hf} (hf:zy w.n) (hh:qQ w.n.id h=true) (hp:hasP h.peer w.n.hv=true):J4 w.n (Q4 w h).n:=
 ⟨hf.keep hh,fun q=>ziO hp q,⟨rfl,rfl,rfl⟩,rfl⟩
theorem jY {w:Wk} {p:Int} (h:zy w.n) (hp:hasP p w.n.hv=true):J4 w.n (qP w p).n:=⟨h.ask hp,fun _=>zpp h hp,⟨rfl,rfl,rfl⟩,rfl⟩
theorem zfW: ∀ {l:List Int} {w:Wk},zy w.n→(∀p∈l,hasP p w.n.hv=true)→J4 w.n (yg w l).n
 |[],w,h,_=>.refl h
 |p::l,w,h,hl=>by
  have h1:=jY h (hl p (List.mem_cons_self ..))
  exact h1.trans (zfW h1.k fun q hq=>by rw[h1.has q];exact hl q (List.mem_cons_of_mem _ hq))
theorem zfN {w:Wk} {c:Ch} (h:zy w.n):J4 w.n (jA w c).n:=⟨h.frsh,fun p=>ztO ..,⟨rfl,rfl,rfl⟩,rfl⟩
theorem zjz {n:zQ} {l:List Tt} (h:zy n) (hl:fitsT n.id l=true):J4 n (n.chS l):=⟨h.chS hl,fun _=>rfl,⟨rfl,rfl,rfl⟩,rfl⟩
theorem Yx: ∀ {l:List It} {w:Wk} {b:Bool},zy w.n→(∀x∈l,jC x.c=true)→J4 w.n (qU w b l).1.n
 |[],w,b,h,_=>.refl h
 | x::l,w,b,h,hl=>by
  rw[qU]
  split
  ·have h1:J4 w.n (w.n.chS (Qw w.n.ch x.c).1):=zjz h (zai h.ch (hl x (List.mem_cons_self ..)))
   have h2:J4 (w.n.chS (Qw w.n.ch x.c).1) (jA ⟨w.n.chS (Qw w.n.ch x.c).1,w.ps,w.es⟩ x.c).n:=zfN (w:=⟨w.n.chS (Qw w.n.ch x.c).1,w.ps,w.es⟩) h1.k
   exact(h1.trans h2).trans (Yx h2.k fun y hy=>hl y (List.mem_cons_of_mem _ hy))
  ·exact Yx h fun y hy=>hl y (List.mem_cons_of_mem _ hy)
theorem zpX (h:Hf) (nm:ByteArray) (g:jQ):(zaL h nm g).peer=h.peer:=rfl
theorem zw7 {w:Wk} {fr:Int} {x:It} (h:zy w.n) (hp:hasP fr w.n.hv=true) (hx:jr x.c.nm=true):J4 w.n (Yp w fr x).n:=by
 obtain⟨h1,h2,h3⟩:=h.find hp
 unfold Yp
 simp only
 split
 ·exact .refl h
 ·split
  ·exact .refl h
  ·rename_i hb
   split
   ·refine ze0 h (zaF h1 (.inr ⟨hx,?_⟩)) (by rw[zpX,h2];exact hp)
    rw[h2]
    exact zvT (by simpa using hb)
   ·exact .refl h
theorem zcq {a:Int} {h:Hf} {nm:ByteArray} {g:jQ} (hf:qQ a h=true) (hn:jr nm=true):qQ a (QG a h nm g).1=true:=by
 unfold QG
 simp only
 split
 ·rename_i hc
  simp only[Bool.and_eq_true]at hc
  exact zaF hf (.inr ⟨hn,hc.1⟩)
 ·exact hf
theorem zhj (a:Int) (h:Hf) (nm:ByteArray) (g:jQ):(QG a h nm g).1.peer=h.peer:=by unfold QG;simp only;split<;>rfl
theorem zeG {c:Ch} (h:jC c=true):jr c.nm=true:=by simp only[jC,Bool.and_eq_true]at h;exact h.1.1.1.1.1
theorem zb1 {w:Wk} {kd fr:Int} {x:It} (h:zy w.n) (hp:hasP fr w.n.hv=true) (hx:itmB x=true):J4 w.n (yZ w kd fr x).n:=by
 have hn:=zeG (y8 hx)
 obtain⟨h1,h2,h3⟩:=h.find hp
 have hk:J4 w.n (Q4 w (QG w.n.id (findH fr w.n.hv).1 x.c.nm (x.ve,x.wt,x.fl)).1).n:=ze0 h (zcq h1 hn) (by rw[zhj,h2];exact hp)
 unfold yZ
 split
 ·exact .refl h
 ·split
  ·exact zjz h (znQ h.ch (zfc hx).1 (zfc hx).2)
  ·split
   ·exact hk.trans (zw7 hk.k (by rw[hk.has];exact hp) hn)
   ·exact hk
theorem JQ: ∀ {l:List It} {w:Wk} {kd fr:Int},zy w.n→hasP fr w.n.hv=true→(∀x∈l,itmB x=true)→J4 w.n (yo w kd fr l).n
 |[],w,_,_,h,_,_=>.refl h
 |x::l,w,kd,fr,h,hp,hl=>by
  have h1:=zb1 (kd:=kd) h hp (hl x (List.mem_cons_self ..))
  exact h1.trans (JQ h1.k (by rw[h1.has];exact hp) fun y hy=>hl y (List.mem_cons_of_mem _ hy))
theorem zfy {p:Int} {l:List Hf} (h:hasP p l=false):findH p l=(zbr,false):=(Qv h).1
theorem zjs {p b lf:Int} {l:List Hf} (h:Z4 (findH p l) b lf=false):hasP p l=true:=by
 simp only[Z4,Bool.or_eq_false_iff,Bool.not_eq_false']at h;exact h.1
structure Jg (n:zQ) (p:qO):Prop where
 fr:nodeB p.fr=true
 ne:p.fr≠n.id
 bt:1≤p.bt∧p.bt≤1099511627776
 lf:0≤p.lf∧p.lf≤1099511627776
 its: ∀x∈p.its,itmB x=true
theorem zka {n:zQ} {kd fr bt lf:Int} (h:zy n) (hf:nodeB fr=true) (hne:fr≠n.id) (hb:1≤bt∧bt≤1099511627776) (hl:0≤lf∧lf≤1099511627776):qQ n.id (jJ n kd fr bt lf)=true∧(jJ n kd fr bt lf).peer=fr:=by
 have key: ∀x:Hf,qQ n.id x=true∧x.peer=fr→qQ n.id (if kd=4 then Yc x else x)=true∧(if kd=4 then Yc x else x).peer=fr:=fun x hx=>by
  split
  ·exact⟨zj0 hx.1,hx.2⟩
  ·exact hx
 unfold jJ
 simp only
 refine key _ ?_
 split
 ·exact⟨zjo h.idB hf (Ne.symm hne) hb hl,rfl⟩
 ·rename_i hb
  have:=h.find (zjs (by simpa using hb))
  exact⟨zjv this.1,this.2.1⟩
theorem Jk {w:Wk} {kd fr bt lf:Int} (h:zy w.n) (hf:nodeB fr=true) (hne:fr≠w.n.id) (hb:1≤bt∧bt≤1099511627776) (hl:0≤lf∧lf≤1099511627776):zy (qf w kd fr bt lf).n∧hasP fr (qf w kd fr bt lf).n.hv=true∧Qz w.n (qf w kd fr bt lf).n∧(qf w kd fr bt lf).n.seen=w.n.seen:=by
 have h1:=zka (kd:=kd) h hf hne hb hl
 have e:(qf w kd fr bt lf).n=w.n.hvS (qu w.n.hv (jJ w.n kd fr bt lf)):=by unfold qf;split<;>rfl
 rw[e]
 exact⟨h.keep h1.1,Zh.2 (.inl h1.2.symm),⟨rfl,rfl,rfl⟩,rfl⟩
theorem zuU {w:Wk} {a b:Bool} {fr:Int} (h:zy w.n):J4 w.n (YA w a b fr).n:=
 zfW h fun p hp=>yP.2 (List.mem_filter.1 hp).1
theorem zs4 {w:Wk} {p:qO} (h:zy w.n) (hp:Jg w.n p):zy (ZL w p).n∧Qz w.n (ZL w p).n∧(ZL w p).n.seen=w.n.seen:=by
 obtain⟨k1,k2,k3,k4⟩:=Jk (kd:=p.kd) h hp.fr hp.ne hp.bt hp.lf
 have s1:=Yx (b:=false) k1 fun x hx=>y8 (hp.its x hx)
 have s2:=JQ (kd:=p.kd) s1.k (by rw[s1.has];exact k2) hp.its
 have s12:=s1.trans s2
 unfold ZL
 simp only
 have e: ∀w3:Wk,(if p.kd=3 then J1 w3 p.fr p.bt p.lf else w3).n=w3.n:=fun w3=>by split<;>rfl
 have s3:=zuU (w:=if p.kd=3 then J1 (yo (qU (qf w p.kd p.fr p.bt p.lf) false p.its).1 p.kd p.fr p.its) p.fr p.bt p.lf else yo (qU (qf w p.kd p.fr p.bt p.lf) false p.its).1 p.kd p.fr p.its) (a:=(qU (qf w p.kd p.fr p.bt p.lf) false p.its).2) (b:=Z4 (findH p.fr w.n.hv) p.bt p.lf) (fr:=p.fr) (by rw[e];exact s12.k)
 have s4:J4 (qf w p.kd p.fr p.bt p.lf).n _:=s12.trans (by rw[e]at s3;exact s3)
 exact⟨s4.k,k3.trans s4.s,s4.seen.trans k4⟩
theorem zhc: ∀ {l:List It} {o:Option ByteArray},ZV o l=true→∀x∈l,itmB x=true
 |[],_,_,x,h=>by cases h
 |y::l,o,h,x,hx=>by
  simp only[ZV,Bool.and_eq_true]at h
  rcases List.mem_cons.1 hx with rfl|hx
  ·exact h.1.1
  ·exact zhc h.2 x hx
theorem Qc {n:zQ} {p:qO} (h:jb p=true) (ht:p.to=n.id):Jg n p:=by
 simp only[jb,Bool.and_eq_true,Zo,decide_eq_true_eq,Bool.not_eq_true',decide_eq_false_iff_not]at h
 obtain⟨⟨⟨⟨⟨⟨⟨⟨h1,h2⟩,h3⟩,h4⟩,h5⟩,h6⟩,h7⟩,h8⟩,h9⟩:=h
 refine⟨h3,by rw[←ht];exact h5,h6,h7,?_⟩
 split at h9
 ·simp only[Bool.and_eq_true]at h9;exact zhc h9.2
 ·have:p.its=[]:=by simpa using h9
  rw[this];intro x hx;cases hx
theorem zy.see {n:zQ} {p:qO} (h:zy n) (hp:Jg n p):zy (qW n p):=h.seS (zh2 h.seen (zhC h.seen hp.fr hp.ne hp.bt hp.lf))
theorem zu7 {n:zQ} {p:qO} (h:zy n) (hp:Jg n p):zy (Q9 n p).n∧Qz n (Q9 n p).n:=by
 have hs:=h.see hp
 unfold Q9
 split
 ·have:=zs4 (w:=⟨qW n p,[],[]⟩) hs ⟨hp.fr,hp.ne,hp.bt,hp.lf,hp.its⟩
  exact⟨this.1,⟨this.2.1.id,this.2.1.bt,this.2.1.want⟩⟩
 ·split
  ·exact⟨hs.drop hp.fr hp.ne,⟨rfl,rfl,rfl⟩⟩
  ·exact⟨hs,⟨rfl,rfl,rfl⟩⟩
theorem zk3 {n:zQ} (p:qO) (h:zy n):zy (jp n p).n∧Qz n (jp n p).n:=by
 unfold jp
 simp only
 split
 ·exact⟨h,.refl n⟩
 ·rename_i hc
  simp only[Bool.or_eq_true,Bool.not_eq_true',decide_eq_true_eq,decide_eq_false_iff_not,not_or,Bool.not_eq_false,ne_eq,Decidable.not_not]at hc
  repeat' split
  ·exact⟨h,.refl n⟩
  ·exact zu7 h (Qc hc.1.1 hc.1.2)
  ·exact⟨h,.refl n⟩
theorem zxJ {x:Int} (h:0≤x∧x≤1099511627776):0≤zad x∧zad x≤1099511627776:=by
 have e:wr (x+1)=x+1:=yj (by omega)
 unfold zad;rw[e];split<;>omega
theorem zy.tickN {n:zQ} (h:zy n):zy (tickN n):=⟨h.bt,zxJ h.tk,h.want,h.seen,h.hv,zm6 h.ch⟩
theorem zy.tnS {n:zQ} {t:Int} (h:zy n) (ht:wantB n.id n.want t=true):zy (n.tnS t):=⟨h.bt,h.tk,ht,h.seen,h.hv,h.ch⟩
theorem zl3 {n:zQ} (h:zy n):zy (tickW n).n∧Qz n (tickW n).n:=by
 have hw:=Qa h.want
 have hm:zy ((tickN n).tnS (yR n.want n.tn).2.1):=h.tickN.tnS hw.1
 unfold tickW
 simp only
 split
 ·exact⟨h.tickN,⟨rfl,rfl,rfl⟩⟩
 ·rename_i hv
  have hmem:=hw.2 (by simpa using hv)
  have hnd:=(zU.1 h.want).2.2.2.2.1 _ hmem
  split
  ·exact⟨hm,⟨rfl,rfl,rfl⟩⟩
  ·rename_i hf
   have hp:hasP (yR n.want n.tn).1 n.hv=true:=by simpa[hasP]using hf
   obtain⟨h1,h2,h3⟩:=h.find hp
   split
   ·rename_i ht
    rcases Zx h1 with⟨_,g1,g2,_⟩|g
    ·have hk:zy (((tickN n).tnS (yR n.want n.tn).2.1).hvS (qu n.hv (yO (findH (yR n.want n.tn).1 n.hv).1).1)):=hm.keep g1
     exact⟨(jY (w:=⟨_,[],[]⟩) hk (Zh.2 (.inl (by rw[g2,h2])))).k,⟨rfl,rfl,rfl⟩⟩
    ·rw[g]at ht;cases ht
   ·exact⟨hm.drop hnd.1 hnd.2,⟨rfl,rfl,rfl⟩⟩
theorem zsU {n:zQ} {v:Int} (h:zy n):zy (zd0 n v).1.n:=⟨h.bt,h.tk,znw h.want,h.seen,h.hv,h.ch⟩
theorem ztv {n:zQ} {v:Int} (h:zy n):zy (jz n v).1.n:=by
 have hm:zy ((n.waS (ZI n.want n.tn v).1).tnS (ZI n.want n.tn v).2.1):=⟨h.bt,h.tk,Y2 h.want,h.seen,h.hv,h.ch⟩
 unfold jz
 simp only
 split
 ·exact h
 ·split
  ·rename_i hf
   have hp:hasP v n.hv=true:=hf
   have h1:=(h.find hp).1
   have h2:=(h.find hp).2.1
   have h3:=(z0.1 h1).1
   rw[zcw,h2]at h3
   exact hm.drop h3.2.1 (Ne.symm h3.2.2.1)
  ·exact hm
theorem zan: ∀ {l:List Tt} {w:Wk} {nm:ByteArray},zy w.n→J4 w.n (madeL w nm l).n
 |[],w,_,h=>.refl h
 |x::l,w,nm,h=>by
  rw[madeL]
  split
  ·have h1:=zfN (c:=x.c) h;exact h1.trans (zan h1.k)
  ·exact zan h
theorem zj9 {n:zQ} {nm:ByteArray} {r:List Tt×Int} (h:zy n) (hr:fitsT n.id r.1=true):zy (ZG n nm r).1.n∧Qz n (ZG n nm r).1.n:=by
 unfold ZG
 split
 ·exact⟨h,.refl n⟩
 ·have h1:=zjz h hr
  have h2:=zan (w:=⟨n.chS r.1,[],[]⟩) (nm:=nm) (l:=r.1) h1.k
  have h3:=zfW (l:=qg (madeL ⟨n.chS r.1,[],[]⟩ nm r.1).n.hv) h2.k fun p hp=>yP.2 hp
  exact⟨h3.k,(h1.trans (h2.trans h3)).s⟩
theorem zpA {n:zQ} {nm:ByteArray} {kd sc:Int} (h:zy n):zy (zi3 n nm kd sc).1.n∧Qz n (zi3 n nm kd sc).1.n:=zj9 h (jj h.ch)
theorem zpC {n:zQ} {nm:ByteArray} (h:zy n):zy (zkj n nm).1.n∧Qz n (zkj n nm).1.n:=zj9 h (jl h.ch)
theorem zt9 {n:zQ} {nm:ByteArray} {v:Int} (h:zy n):zy (zer n nm v).1∧Qz n (zer n nm v).1:=⟨h.chS (zqo h.ch),⟨rfl,rfl,rfl⟩⟩
def xL (ch:List Tt) (x:Ln):Bool:=(findT x.nm ch).2&&QQ (findT x.nm ch).1.c.kd
def xH (want:List Int) (seen:List Sn) (ch:List Tt) (h:Hf):Bool:=decide (h.peer∈want)&& !latB h.boot h.life (getS seen h.peer).bt (getS seen h.peer).sq&&h.lines.all (xL ch)
def zaj (n:zQ):Bool:=nodeB n.id&&decide (1≤n.bt)&&decide (n.bt≤1099511627776)&&decide (0≤n.tk)&&decide (n.tk≤1099511627776)&&wantB n.id n.want n.tn&&fitsS n.id n.seen&&fitsH n.id n.hv&&fitsT n.id n.ch&&n.hv.all (xH n.want n.seen n.ch)
theorem zcM {n:zQ}:zaj n=true↔zy n∧∀h∈n.hv,xH n.want n.seen n.ch h=true:=by
 simp only[zaj,Bool.and_eq_true,decide_eq_true_eq,List.all_eq_true]
 constructor
 ·rintro⟨⟨⟨⟨⟨⟨⟨⟨⟨h0,h1⟩,h2⟩,h3⟩,h4⟩,h5⟩,h6⟩,h7⟩,h8⟩,h9⟩
  exact⟨⟨⟨h1,h2⟩,⟨h3,h4⟩,h5,h6,h7,h8⟩,h9⟩
 ·rintro⟨h,h9⟩
  exact⟨⟨⟨⟨⟨⟨⟨⟨⟨h.idB,h.bt.1⟩,h.bt.2⟩,h.tk.1⟩,h.tk.2⟩,h.want⟩,h.seen⟩,h.hv⟩,h.ch⟩,h9⟩
theorem Q3 {n:ByteArray} {x:Tt}: ∀ {l:List Tt},findT n l=(x,true)→x∈l∧Jr n x=true
 |[],h=>by simp[findT]at h
 |y::l,h=>by
  rw[findT]at h
  split at h
  ·rename_i hy;injection h with h _;subst h;exact⟨List.mem_cons_self ..,hy⟩
  ·have:=Q3 h;exact⟨List.mem_cons_of_mem _ this.1,this.2⟩
theorem zdq {n:ByteArray} {x:Tt}: ∀ {l:List Tt},Qb (recT l)→x∈l→Jr n x=true→findT n l=(x,true)
 |[],_,h,_=>by cases h
 | y::l,hs,h,hx=>by
  have hs':=List.pairwise_cons.1 hs
  rw[findT]
  rcases List.mem_cons.1 h with rfl|h
  ·rw[if_pos hx]
  ·split
   ·rename_i hy
    have h1:=hs'.1 x.c (List.mem_map.2 ⟨x,h,rfl⟩)
    rw[(QK hy).1,(QK hx).1,y4]at h1;cases h1
   ·exact zdq hs'.2 h hx
def OkL (ch:List Tt) (nm:ByteArray):Prop:=∃c∈recT ch,c.nm=nm∧c.al=true∧QQ c.kd=true
theorem zsy {ch:List Tt} (hs:Qb (recT ch)) {x:Ln}:xL ch x=true↔OkL ch x.nm:=by
 simp only[xL,Bool.and_eq_true]
 constructor
 ·rintro⟨h1,h2⟩
  rcases hf:findT x.nm ch with⟨s,b⟩
  rw[hf]at h1 h2;simp only at h1;subst h1
  obtain⟨hm,hh⟩:=Q3 hf
  exact⟨s.c,List.mem_map.2 ⟨s,hm,rfl⟩,(QK hh).1,(QK hh).2,h2⟩
 ·rintro⟨c,hc,h1,h2,h3⟩
  obtain⟨s,hs',rfl⟩:=List.mem_map.1 hc
  have:findT x.nm ch=(s,true):=zdq hs hs' (by simp only[Jr,h1,h2];simp)
  rw[this];exact⟨rfl,h3⟩
def XH (want:List Int) (seen:List Sn) (ch:List Tt) (h:Hf):Prop:=h.peer∈want∧latB h.boot h.life (getS seen h.peer).bt (getS seen h.peer).sq=false∧∀x∈h.lines,OkL ch x.nm
def FitX (n:zQ):Prop:=∀h∈n.hv,XH n.want n.seen n.ch h
theorem jV {n:zQ}:zaj n=true↔zy n∧FitX n:=by
 rw[zcM]
 constructor
 ·rintro⟨h,hx⟩
  refine⟨h,fun g hg=>?_⟩
  have:=hx g hg
  simp only[xH,Bool.and_eq_true,decide_eq_true_eq,Bool.not_eq_true',List.all_eq_true]at this
  exact⟨this.1.1,this.1.2,fun x hx=>(zsy (zH.1 h.ch).2.2.2.1).1 (this.2 x hx)⟩
 ·rintro⟨h,hx⟩
  refine⟨h,fun g hg=>?_⟩
  obtain⟨h1,h2,h3⟩:=hx g hg
  simp only[xH,Bool.and_eq_true,decide_eq_true_eq,Bool.not_eq_true',List.all_eq_true]
  exact⟨⟨h1,h2⟩,fun x hx=>(zsy (zH.1 h.ch).2.2.2.1).2 (h3 x hx)⟩
theorem zb4 {n:zQ} {h:Hf} (hx:FitX n) (hh:XH n.want n.seen n.ch h):FitX (n.hvS (qu n.hv h)):=fun g hg=>by
 rcases Jp.1 hg with rfl|⟨hg,_⟩
 ·exact hh
 ·exact hx g hg
theorem zs5 {n:zQ} {p:Int} (hk:zy n) (hx:FitX n) (hp:hasP p n.hv=true):FitX (J0 n p):=zb4 hx (by have:=hx _ (hk.find hp).2.2;exact⟨this.1,this.2.1,this.2.2⟩)
theorem zjg: ∀ {l:List Int} {w:Wk},zy w.n→FitX w.n→(∀p∈l,hasP p w.n.hv=true)→FitX (yg w l).n
 |[],w,_,h,_=>h
 |p::l,w,hk,h,hl=>by
  have hp:=hl p (List.mem_cons_self ..)
  have h1:=jY hk hp
  exact zjg (l:=l) (w:=qP w p) h1.k (zs5 hk h hp) fun q hq=>by rw[h1.has q];exact hl q (List.mem_cons_of_mem _ hq)
theorem zq4 {l:List Ln} {nm:ByteArray} (hs:Y8 l) {x:Ln} (h:x∈jB l nm noG):x∈l∧x.nm≠nm:=by
 unfold jB at h
 have hz:ZK noG=true:=rfl
 simp only[hz,Bool.not_true,Bool.and_false,Bool.false_and,Bool.false_eq_true,if_false,if_true,List.append_nil]at h
 rcases List.mem_append.1 h with h|h
 ·refine⟨List.mem_of_mem_take h,?_⟩
  have:=zne x h
  rintro e;rw[e,y4]at this;cases this
 ·refine⟨List.mem_of_mem_drop h,?_⟩
  have:=zm8 hs x h
  rintro e;rw[e,y4]at this;cases this
def zpm (nm:ByteArray) (n:zQ):Prop:=∀h∈n.hv,h.peer∈n.want∧latB h.boot h.life (getS n.seen h.peer).bt (getS n.seen h.peer).sq=false∧∀x∈h.lines,x.nm≠nm→OkL n.ch x.nm
theorem zpB {n:zQ} {nm:ByteArray} (hk:zy n) (h:zpm nm n):FitX (n.hvS (Qy n.hv nm)):=fun g hg=>by
 obtain⟨y,hy,rfl⟩:=List.mem_map.1 hg
 obtain⟨h1,h2,h3⟩:=h y hy
 have hs:=(z0.1 ((q8.1 hk.hv).2.1 y hy)).2.2.1
 refine⟨h1,h2,fun x hx=>?_⟩
 obtain⟨g1,g2⟩:=zq4 hs hx
 exact h3 x g1 g2
theorem zfY {c y:Ch}: ∀ {d:Bool} {l:List Ch},y∈l→y.nm≠c.nm→y∈jX d l c
 |d,[],h,_=>by cases h
 | d,x::l,h,hn=>by
  rw[y5]
  rcases List.mem_cons.1 h with rfl|h
  ·have hq:(y.nm.toList==c.nm.toList)=false:=by
    cases hb:y.nm.toList==c.nm.toList
    ·rfl
    ·exact absurd (zf3 hb) hn
   simp[hq]
  ·exact List.mem_append_right _ (zfY h hn)
theorem zhe {c:Ch}: ∀(l:List Ch),c∈jX false l c
 |[]=>by rw[YY];simp
 |x::l=>by
  rw[y5]
  cases hb:Op.bytesLess x.nm.toList c.nm.toList
  ·simp
  ·simp only[Bool.not_true,Bool.and_false,Bool.or_false];exact List.mem_append_right _ (zhe l)
theorem zpq {n:zQ} {c:Ch} {l:List Tt} (h:FitX n) (hl:recT l=jX false (recT n.ch) c):zpm c.nm (n.chS l):=fun g hg=>by
 obtain⟨h1,h2,h3⟩:=h g hg
 refine⟨h1,h2,fun x hx hn=>?_⟩
 obtain⟨c',hc,e1,e2,e3⟩:=h3 x hx
 refine⟨c',?_,e1,e2,e3⟩
 show c'∈recT l
 rw[hl];exact zfY hc (by rw[e1];exact hn)
theorem zwu {l:List Tt} {c:Ch} (h:(Qw l c).2=true):recT (Qw l c).1=jX false (recT l) c:=by
 unfold Qw at h ⊢
 split at h
 ·rename_i hc
  rw[if_pos hc,zcA]
  unfold yx at hc ⊢
  simp only at hc ⊢
  repeat' split at hc
  all_goals first|(exfalso;simp at hc;done)|(repeat' split)<;>first|rfl|contradiction
 ·cases h
theorem znH: ∀ {l:List It} {w:Wk} {b:Bool},zy w.n→FitX w.n→(∀x∈l,jC x.c=true)→FitX (qU w b l).1.n
 |[],w,b,_,h,_=>h
 | x::l,w,b,hk,h,hl=>by
  rw[qU]
  split
  ·rename_i hc
   have k1:=hk.chS (zai hk.ch (hl x (List.mem_cons_self ..)))
   have h1:=zpq h (zwu hc)
   exact znH (w:=jA ⟨w.n.chS (Qw w.n.ch x.c).1,w.ps,w.es⟩ x.c) k1.frsh (zpB k1 h1) fun y hy=>hl y (List.mem_cons_of_mem _ hy)
  ·exact znH hk h fun y hy=>hl y (List.mem_cons_of_mem _ hy)
theorem zov {want:List Int} {seen:List Sn} {ch:List Tt} {h:Hf} {nm:ByteArray} {g:jQ} (hh:XH want seen ch h) (hn:OkL ch nm):XH want seen ch (zaL h nm g):=by
 refine⟨hh.1,hh.2.1,fun x hx=>?_⟩
 rcases zjl hx with hx|⟨rfl,_⟩
 ·exact hh.2.2 x hx
 ·exact hn
theorem zzR {w:Wk} {fr:Int} {x:It} (hk:zy w.n) (h:FitX w.n) (hp:hasP fr w.n.hv=true) (hn:OkL w.n.ch x.c.nm):FitX (Yp w fr x).n:=by
 unfold Yp
 simp only
 repeat' split
 all_goals first|exact h|skip
 exact zb4 h (zov (h _ (hk.find hp).2.2) hn)
theorem zy1 {want:List Int} {seen:List Sn} {ch:List Tt} {a:Int} {h:Hf} {nm:ByteArray} {g:jQ} (hh:XH want seen ch h) (hn:OkL ch nm):XH want seen ch (QG a h nm g).1:=by
 unfold QG;simp only;split
 ·exact zov hh hn
 ·exact hh
theorem zzj {n:zQ} {c:Ch} (hk:zy n) (ho:JL n.ch c=true) (h4: ¬(findT c.nm n.ch).1.c.kd=4):OkL n.ch c.nm:=by
 simp only[JL,Bool.and_eq_true]at ho
 rcases hf:findT c.nm n.ch with⟨s,b⟩
 rw[hf]at ho h4
 have hb:b=true:=ho.1.1.1
 subst hb
 obtain⟨hm,hh⟩:=Q3 hf
 have hkd:=zeQ hk.ch s hm
 exact⟨s.c,List.mem_map.2 ⟨s,hm,rfl⟩,(QK hh).1,(QK hh).2,by simp only[QQ,Bool.and_eq_true,decide_eq_true_eq];simp only at h4;omega⟩
theorem zoQ {l m:List Tt} {nm:ByteArray} (h:recT m=recT l) (ho:OkL l nm):OkL m nm:=by unfold OkL at*;rw[h];exact ho
theorem ztW {n:zQ} {l:List Tt} (h:FitX n) (hl:recT l=recT n.ch):FitX (n.chS l):=fun g hg=>by
 obtain⟨h1,h2,h3⟩:=h g hg
 exact⟨h1,h2,fun x hx=>zoQ hl (h3 x hx)⟩
theorem zvU {w:Wk} {kd fr:Int} {x:It} (hk:zy w.n) (h:FitX w.n) (hp:hasP fr w.n.hv=true) (hx:itmB x=true):FitX (yZ w kd fr x).n:=by
 have hn:=zeG (y8 hx)
 obtain⟨h1,h2,h3⟩:=hk.find hp
 have hkk:J4 w.n (Q4 w (QG w.n.id (findH fr w.n.hv).1 x.c.nm (x.ve,x.wt,x.fl)).1).n:=ze0 hk (zcq h1 hn) (by rw[zhj,h2];exact hp)
 unfold yZ
 split
 ·exact h
 ·rename_i ho
  split
  ·exact ztW h (zcC (zrz _ _ _) _)
  ·rename_i h4
   have hok:=zzj hk (by simpa using ho) h4
   have hq:FitX (Q4 w (QG w.n.id (findH fr w.n.hv).1 x.c.nm (x.ve,x.wt,x.fl)).1).n:=zb4 h (zy1 (h _ h3) hok)
   split
   ·exact zzR hkk.k hq (by rw[hkk.has];exact hp) hok
   ·exact hq
theorem zrE: ∀ {l:List It} {w:Wk} {kd fr:Int},zy w.n→FitX w.n→hasP fr w.n.hv=true→(∀x∈l,itmB x=true)→FitX (yo w kd fr l).n
 |[],w,_,_,_,h,_,_=>h
 |x::l,w,kd,fr,hk,h,hp,hl=>by
  have hx:=hl x (List.mem_cons_self ..)
  have h1:=zb1 (kd:=kd) hk hp hx
  exact zrE (l:=l) (w:=yZ w kd fr x) h1.k (zvU hk h hp hx) (by rw[h1.has];exact hp) fun y hy=>hl y (List.mem_cons_of_mem _ hy)
theorem zsI (n:zQ) (kd fr bt lf:Int):(Z4 (findH fr n.hv) bt lf=true∧(jJ n kd fr bt lf).boot=bt∧(jJ n kd fr bt lf).life=lf∧(jJ n kd fr bt lf).lines=[])∨(Z4 (findH fr n.hv) bt lf=false∧(jJ n kd fr bt lf).boot=(findH fr n.hv).1.boot∧(jJ n kd fr bt lf).life=(findH fr n.hv).1.life∧(jJ n kd fr bt lf).lines=(findH fr n.hv).1.lines):=by
 unfold jJ
 simp only
 cases Z4 (findH fr n.hv) bt lf
 ·right;split<;>simp[Yc,ZR]
 ·left;split<;>simp[Yc]
theorem zvw {w:Wk} {kd fr bt lf:Int} (hk:zy w.n) (h:FitX w.n) (hf:nodeB fr=true) (hne:fr≠w.n.id) (hb:1≤bt∧bt≤1099511627776) (hl:0≤lf∧lf≤1099511627776) (hw:fr∈w.n.want) (hs:latB bt lf (getS w.n.seen fr).bt (getS w.n.seen fr).sq=false):FitX (qf w kd fr bt lf).n:=by
 have e:(qf w kd fr bt lf).n=w.n.hvS (qu w.n.hv (jJ w.n kd fr bt lf)):=by unfold qf;split<;>rfl
 have hp:=(zka (kd:=kd) hk hf hne hb hl).2
 rw[e]
 refine zb4 h ?_
 rcases zsI w.n kd fr bt lf with⟨_,h1,h2,h3⟩|⟨h0,h1,h2,h3⟩
 ·exact⟨by rw[hp];exact hw,by rw[hp,h1,h2];exact hs,by rw[h3];intro x hx;cases hx⟩
 ·obtain⟨g1,g2,g3⟩:=hk.find (zjs h0)
  have hq:=h _ g3
  exact⟨by rw[hp];exact hw,by rw[hp,h1,h2];have:=hq.2.1;rw[g2]at this;exact this,by rw[h3];exact hq.2.2⟩
theorem zxf {w:Wk} {p:qO} (hk:zy w.n) (h:FitX w.n) (hp:Jg w.n p) (hw:p.fr∈w.n.want) (hs:latB p.bt p.lf (getS w.n.seen p.fr).bt (getS w.n.seen p.fr).sq=false):FitX (ZL w p).n:=by
 obtain⟨k1,k2,k3,k4⟩:=Jk (kd:=p.kd) hk hp.fr hp.ne hp.bt hp.lf
 have x1:=zvw (kd:=p.kd) hk h hp.fr hp.ne hp.bt hp.lf hw hs
 have s1:=Yx (b:=false) k1 fun x hx=>y8 (hp.its x hx)
 have x2:=znH (b:=false) k1 x1 fun x hx=>y8 (hp.its x hx)
 have hh:hasP p.fr (qU (qf w p.kd p.fr p.bt p.lf) false p.its).1.n.hv=true:=by rw[s1.has];exact k2
 have s2:=JQ (kd:=p.kd) s1.k hh hp.its
 have x3:=zrE (kd:=p.kd) s1.k x2 hh hp.its
 unfold ZL YA
 simp only
 have e: ∀w3:Wk,(if p.kd=3 then J1 w3 p.fr p.bt p.lf else w3).n=w3.n:=fun w3=>by split<;>rfl
 refine zjg (by rw[e];exact s2.k) (by rw[e];exact x3) fun q hq=>yP.2 (List.mem_filter.1 hq).1
theorem zzV {n:zQ} {p:qO} (h:zy n) (hp:Jg n p):getS (qh n.seen (ZZ (getS n.seen p.fr) p.bt p.lf)) p.fr=ZZ (getS n.seen p.fr) p.bt p.lf:=by
 have hid:(ZZ (getS n.seen p.fr) p.bt p.lf).id=p.fr:=by rw[zji,Zk]
 have hz:=zeB.1 (zhC h.seen hp.fr hp.ne hp.bt hp.lf)
 have:=zjb (s:=ZZ (getS n.seen p.fr) p.bt p.lf) h.srtS (fun e=>(hz.2.2.2.2.2.2.2.2 e.1).2 e.2)
 rw[hid]at this;exact this
theorem zyS {n:zQ} {p:qO} (hk:zy n) (h:FitX n) (hp:Jg n p):FitX (qW n p)∧latB p.bt p.lf (getS (qW n p).seen p.fr).bt (getS (qW n p).seen p.fr).sq=false:=by
 have e:=zzV hk hp
 refine⟨fun g hg=>?_,?_⟩
 ·obtain⟨h1,h2,h3⟩:=h g hg
  refine⟨h1,?_,h3⟩
  show latB g.boot g.life (getS (qh n.seen (ZZ (getS n.seen p.fr) p.bt p.lf)) g.peer).bt (getS (qh n.seen (ZZ (getS n.seen p.fr) p.bt p.lf)) g.peer).sq=false
  by_cases hq:g.peer=p.fr
  ·rw[hq]at h2 ⊢
   rw[e];unfold ZZ;split
   ·rename_i hl;simp only[latB]at*;grind
   ·exact h2
  ·rw[YL hk.srtS (by rw[zji,Zk];exact hq)];exact h2
 ·show latB p.bt p.lf (getS (qh n.seen (ZZ (getS n.seen p.fr) p.bt p.lf)) p.fr).bt (getS (qh n.seen (ZZ (getS n.seen p.fr) p.bt p.lf)) p.fr).sq=false
  rw[e];unfold ZZ;split
  ·simp[latB]
  ·rename_i hl;simpa using hl
theorem zor {n:zQ} {p:Int} (hk:zy n) (h:FitX n):FitX (yU n p):=fun g hg=>by
 obtain⟨hg,hne⟩:=zcc.1 hg
 obtain⟨h1,h2,h3⟩:=h g hg
 refine⟨h1,?_,h3⟩
 show latB g.boot g.life (getS (qh n.seen (QL (getS n.seen p))) g.peer).bt (getS (qh n.seen (QL (getS n.seen p))) g.peer).sq=false
 rw[YL hk.srtS (by show g.peer≠(getS n.seen p).id;rw[Zk];exact hne)];exact h2
theorem zwW {n:zQ} (p:qO) (hk:zy n) (h:FitX n):FitX (jp n p).n:=by
 unfold jp
 simp only
 split
 ·exact h
 ·rename_i hc
  simp only[Bool.or_eq_true,Bool.not_eq_true',decide_eq_true_eq,decide_eq_false_iff_not,not_or,Bool.not_eq_false,ne_eq,Decidable.not_not]at hc
  have hp:=Qc hc.1.1 hc.1.2
  repeat' split
  ·exact h
  ·have hs:=zyS hk h hp
   have ks:=hk.see hp
   unfold Q9
   split
   ·exact zxf (w:=⟨qW n p,[],[]⟩) ks hs.1 ⟨hp.fr,hp.ne,hp.bt,hp.lf,hp.its⟩ hc.2 hs.2
   ·split
    ·exact zor ks hs.1
    ·exact hs.1
  ·exact h
theorem zxg {n:zQ} (hk:zy n) (h:FitX n):FitX (tickW n).n:=by
 have hw:=Qa hk.want
 have hkm:zy ((tickN n).tnS (yR n.want n.tn).2.1):=hk.tickN.tnS hw.1
 have hr:recT (n.ch.map (Za n.id))=recT n.ch:=zlN fun x _=>zuw _ x
 have h0:FitX (tickN n):=fun g hg=>by
  obtain⟨h1,h2,h3⟩:=h g hg
  exact⟨h1,h2,fun x hx=>zoQ hr (h3 x hx)⟩
 have hm:FitX ((tickN n).tnS (yR n.want n.tn).2.1):=h0
 unfold tickW
 simp only
 split
 ·exact h0
 ·split
  ·exact hm
  ·rename_i hf
   have hp:hasP (yR n.want n.tn).1 n.hv=true:=by simpa[hasP]using hf
   obtain⟨h1,h2,h3⟩:=hk.find hp
   split
   ·rename_i ht
    rcases Zx h1 with⟨_,g1,g2,g3,g4,g5,_⟩|g
    ·have hk2:zy (((tickN n).tnS (yR n.want n.tn).2.1).hvS (qu n.hv (yO (findH (yR n.want n.tn).1 n.hv).1).1)):=hkm.keep g1
     have hq:=hm _ h3
     have hx2:FitX (((tickN n).tnS (yR n.want n.tn).2.1).hvS (qu n.hv (yO (findH (yR n.want n.tn).1 n.hv).1).1)):=
      zb4 hm ⟨by rw[g2];exact hq.1,by rw[g2,g3,g4];exact hq.2.1,by rw[g5];exact hq.2.2⟩
     exact zs5 hk2 hx2 (Zh.2 (.inl (by rw[g2,h2])))
    ·rw[g]at ht;cases ht
   ·exact zor hkm hm
theorem zvB {n:zQ} {v:Int} (h:FitX n):FitX (zd0 n v).1.n:=fun g hg=>by
 obtain⟨h1,h2,h3⟩:=h g hg
 exact⟨zrT h1,h2,h3⟩
theorem zxX {n:zQ} {v:Int} (hk:zy n) (h:FitX n):FitX (jz n v).1.n:=by
 have hnd:=(zU.1 hk.want).2.2.2.2.2
 have hkm:zy ((n.waS (ZI n.want n.tn v).1).tnS (ZI n.want n.tn v).2.1):=⟨hk.bt,hk.tk,Y2 hk.want,hk.seen,hk.hv,hk.ch⟩
 have key: ∀g∈n.hv,g.peer≠v→XH (ZI n.want n.tn v).1 n.seen n.ch g:=fun g hg hne=>by
  obtain⟨h1,h2,h3⟩:=h g hg
  exact⟨(zpM hnd).2 ⟨h1,hne⟩,h2,h3⟩
 unfold jz
 simp only
 split
 ·exact h
 ·split
  ·intro g hg
   obtain⟨hg,hne⟩:=zcc.1 hg
   obtain⟨h1,h2,h3⟩:=key g hg hne
   refine⟨h1,?_,h3⟩
   show latB g.boot g.life (getS (qh n.seen (QL (getS n.seen v))) g.peer).bt (getS (qh n.seen (QL (getS n.seen v))) g.peer).sq=false
   rw[YL hk.srtS (by show g.peer≠(getS n.seen v).id;rw[Zk];exact hne)];exact h2
  ·rename_i hf
   intro g hg
   exact key g hg ((Qv (by simpa using hf)).2 g hg)
theorem zi7: ∀ {l:List Tt} {w:Wk} {nm:ByteArray},zy w.n→zpm nm w.n→(FitX w.n∨∃x∈l,x.c.nm=nm)→FitX (madeL w nm l).n
 |[],w,nm,_,_,h=>by rcases h with h|⟨x,hx,_⟩;exact h;cases hx
 | x::l,w,nm,hk,hn,h=>by
  rw[madeL]
  split
  ·rename_i hq
   have e:x.c.nm=nm:=zf3 hq
   have h1:FitX (jA w x.c).n:=zpB hk (by rw[e];exact hn)
   exact zi7 (zfN hk).k (fun g hg=>⟨(h1 g hg).1,(h1 g hg).2.1,fun y hy _=>(h1 g hg).2.2 y hy⟩) (.inl h1)
  ·rename_i hq
   refine zi7 hk hn ?_
   rcases h with h|⟨y,hy,e⟩
   ·exact .inl h
   ·rcases List.mem_cons.1 hy with rfl|hy
    ·exact absurd (by rw[e];simp) hq
    ·exact .inr ⟨y,hy,e⟩
theorem zcs {n:zQ} {nm:ByteArray} {r:List Tt×Int} {c:Ch} (hk:zy n) (h:FitX n) (hr:fitsT n.id r.1=true) (hc:r.2=0→recT r.1=jX false (recT n.ch) c∧c.nm=nm):FitX (ZG n nm r).1.n:=by
 unfold ZG
 split
 ·exact h
 ·rename_i h0
  obtain⟨e1,e2⟩:=hc (by simpa using h0)
  have k1:zy (n.chS r.1):=hk.chS hr
  have hn:zpm nm (n.chS r.1):=by rw[←e2];exact zpq h e1
  have hin: ∃x∈r.1,x.c.nm=nm:=by
   have:c∈recT r.1:=by rw[e1];exact zhe _
   obtain⟨x,hx,rfl⟩:=List.mem_map.1 this
   exact⟨x,hx,e2⟩
  have h2:=zan (w:=⟨n.chS r.1,[],[]⟩) (nm:=nm) (l:=r.1) k1
  exact zjg h2.k (zi7 (w:=⟨n.chS r.1,[],[]⟩) k1 hn (.inr hin)) fun p hp=>yP.2 hp
theorem zv9 {l:List Tt} {id kd sc:Int} {nm:ByteArray} (h:(zdk l id nm kd sc).2=0): ∃c:Ch,recT (zdk l id nm kd sc).1=jX false (recT l) c∧c.nm=nm:=by
 unfold zdk at h ⊢
 split at h
 ·rename_i hc
  rw[if_pos hc]
  simp only[zcA]
  unfold yD at hc ⊢
  simp only at hc ⊢
  repeat' split at hc
  all_goals first|(exfalso;simp at hc;done)|skip
  exact⟨⟨nm,wr ((z5 (recT l) nm).1.ep+1),id,true,kd,sc⟩,by(repeat' split)<;>first|rfl|contradiction,rfl⟩
 ·rename_i hc;exact absurd h hc
theorem zwn {l:List Tt} {id:Int} {nm:ByteArray} (h:(zdt l id nm).2=0): ∃c:Ch,recT (zdt l id nm).1=jX false (recT l) c∧c.nm=nm:=by
 unfold zdt at h ⊢
 split at h
 ·rename_i hc
  rw[if_pos hc]
  simp only[zcA]
  unfold yF at hc ⊢
  simp only at hc ⊢
  repeat' split at hc
  all_goals first|(exfalso;simp at hc;done)|skip
  rename_i h1 h2
  refine⟨⟨(z5 (recT l) nm).1.nm,wr ((z5 (recT l) nm).1.ep+1),id,false,(z5 (recT l) nm).1.kd,(z5 (recT l) nm).1.sc⟩,by(repeat' split)<;>first|rfl|contradiction,?_⟩
  simp only[Bool.or_eq_true,Bool.not_eq_true',not_or,Bool.not_eq_false]at h1
  rcases hf:z5 (recT l) nm with⟨o,b⟩
  have hb:b=true:=by have:=h1.1;rw[hf]at this;exact this
  subst hb
  exact(Zu hf).2
 ·rename_i hc;exact absurd h hc
theorem zAd {n:zQ} {nm:ByteArray} {kd sc:Int} (hk:zy n) (h:FitX n):FitX (zi3 n nm kd sc).1.n:=by
 by_cases h0:(zdk n.ch n.id nm kd sc).2=0
 ·obtain⟨c,e1,e2⟩:=zv9 h0
  exact zcs (c:=c) hk h (jj hk.ch) fun _=>⟨e1,e2⟩
 ·exact zcs (c:=zdf) hk h (jj hk.ch) fun e=>absurd e h0
theorem zy7 {n:zQ} {nm:ByteArray} (hk:zy n) (h:FitX n):FitX (zkj n nm).1.n:=by
 by_cases h0:(zdt n.ch n.id nm).2=0
 ·obtain⟨c,e1,e2⟩:=zwn h0
  exact zcs (c:=c) hk h (jl hk.ch) fun _=>⟨e1,e2⟩
 ·exact zcs (c:=zdf) hk h (jl hk.ch) fun e=>absurd e h0
theorem zu6 (id:Int) (nm:ByteArray) (v:Int) (l:List Tt):recT (QF id nm v l).1=recT l:=by
 unfold QF
 repeat' split
 all_goals first|rfl|exact zcC (zt3 _ _) _
theorem zvn {n:zQ} {nm:ByteArray} {v:Int} (h:FitX n):FitX (zer n nm v).1:=ztW h (zu6 _ _ _ _)
end Go.Proofs.YtbcbnfiedgnfpaaGreat
