import Derived.Test.YtbcbnfiedgnfpaaGreatZ12
import Derived.Test.YtbcbnfiedgnfpaaGreatZ08
set_option linter.unusedSimpArgs false
set_option linter.unusedVariables false
set_option maxRecDepth 100000
set_option maxHeartbeats 2000000
namespace Go.Proofs.YtbcbnfiedgnfpaaGreat
open Go.Dl
attribute [local irreducible] DW yE zY zA zu zky
attribute [local push_cast] zZ qF qC zN zM zD zE qH qE qz Go.Dl.qY yT qy List.mem_cons List.not_mem_nil or_false forall_eq false_implies implies_true
def ZM (p:Int):Bool→List Hf→List Hf×Bool
 |d,[]=>([],d)
 |d,h::l=>if h.peer=p then ZM p true l else(h::(ZM p d l).1,(ZM p d l).2)
theorem zv0 (p:Int) (d:Bool):ZM p d []=([],d):=rfl
theorem zax (p:Int) (d:Bool) (h:Hf) (l:List Hf):ZM p d (h::l)=if h.peer=p then ZM p true l else(h::(ZM p d l).1,(ZM p d l).2):=rfl
theorem zjq (p:Int): ∀(d:Bool) (l:List Hf),(ZM p d l).1.length≤l.length∧∀h∈(ZM p d l).1,h∈l
 |d,[]=>by simp[ZM]
 | d,h::l=>by
  rw[zax]
  split
  ·have:=zjq p true l
   exact⟨by simp;omega,fun x hx=>List.mem_cons_of_mem _ (this.2 x hx)⟩
  ·have:=zjq p d l
   refine⟨by simpa using this.1,fun x hx=>?_⟩
   rcases List.mem_cons.1 hx with rfl|hx
   ·exact List.mem_cons_self ..
   ·exact List.mem_cons_of_mem _ (this.2 x hx)
theorem HOk.sub {l m:List Hf} (h:HOk l) (h1:m.length≤l.length) (h2: ∀x∈m,x∈l):HOk m:=⟨by have:=h.1;omega,fun x hx=>h.2 x (h2 x hx)⟩
abbrev rLB (x:List Hf×Bool):V:=.tup [(false,[.f (.l 6 (x.1.map jI))]),(false,[.f (eB x.2)])]
theorem zdY (l:List Hf) (p:Int) (hl:HOk l):zu Tryz.prog 236 [Zs l,gI p] (rLB (ZM p false l)):=by
 have hl1:=hl.1
 refine enx [.tmp 4,.tmp 5] Tryz.func236 fun X w0=>?_
 repeat'(first|(refine spl ?_ ?_<;>(intro hb;refine ne ?_))|(refine zl hR ?_;clear hR)|refine s1 ?_|exact True.intro|refine cal (Jj _ _ _ _ _ _ (hl.at (by assumption))) ?_|((with_reducible refine zO ?_);refine zgC 6 90 43 6 ?_;refine frx (ι:=List Hf×Bool×Nat) (l.length) (fun k x=>St.ofA [(0,Zs l),(1,gI p),(6,.c (.o 90)),(7,gB x.2.1),(8,gI k)] [] [(90,x.2.2,43,6,x.1.map jI)]) (fun k x=>((ZM p false l).1=x.1++(ZM p x.2.1 (l.drop k)).1∧(ZM p false l).2=(ZM p x.2.1 (l.drop k)).2)∧x.1.length≤k) ([],false,90) ?_ (fun k x hJ hk R hR=>?_))|refine fnx ((x.1,true,90)) ?_ ?_|refine fnx ((x.1++[l[k]],x.2.1,29)) ?_ ?_|(refine s2 ?_;try with_reducible intro R hR)|fail)
 all_goals(refine gz ?_;grind[zv0,zax,zP])
def Yr (p:Int):List Hf→Nat
 |[]=>0
 |h::l=>if h.peer<p then 1+Yr p l else 0
theorem zpG (p:Int):Yr p []=0:=rfl
theorem Qr (p:Int) (h:Hf) (l:List Hf):Yr p (h::l)=if h.peer<p then 1+Yr p l else 0:=rfl
theorem znO (p:Int): ∀(l:List Hf),Yr p l≤l.length
 |[]=>Nat.le_refl _
 |h::l=>by
  have:=znO p l
  rw[Qr]
  split
  ·simp;omega
  ·exact Nat.zero_le _
def zlu (l:List Hf) (h:Hf):List Hf:=l.take (Yr h.peer l)++[h]++l.drop (Yr h.peer l)
def qu (l:List Hf) (h:Hf):List Hf:=zlu (ZM h.peer false l).1 h
theorem yq (l:List Hf) (p b lf:Int) (ls:List Ln) (pe:Bool) (m:Int) (hl:HOk l) (hn:ls.length≤1048576):zu Tryz.prog 250 [Zs l,Yb p b lf ls pe m] (Zs (qu l ⟨p,b,lf,ls,pe,m⟩)):=by
 have hl1:=hl.1
 have hs:=zjq p false l
 generalize hd:(ZM p false l).1=d at hs
 have hd1:d.length≤1048576:=by omega
 refine enx [.tmp 4] Tryz.func250 fun X w0=>?_
 repeat'(first|(refine spl ?_ ?_<;>(intro hb;refine ne ?_))|(refine zl hR ?_;clear hR)|refine s1 ?_|exact True.intro|(refine cal (zdY _ _ hl) ?_;try simp only[hd])|refine cal (Jj _ _ _ _ _ _ hn) ?_|(refine zcK (ι:=Nat) (fun k=>St.ofA [(3,.loc 3 0),(5,Zs d),(7,.c (.f (.s (.slice none 0 0)))),(8,gI k)] [(3,43,cH ⟨p,b,lf,ls,pe,m⟩)] []) (fun k=>Yr p d=k+Yr p (d.drop k)∧k≤d.length) (fun k=>d.length - k) 0 ?_ (by(refine zp rfl ?_ ?_ ?_<;>simp);done) (fun i hqi RL hRL=>?_);rotate_left;obtain⟨hq1,hq2⟩:=hqi)|refine rdb [] ?_|(refine ztu (by assumption) ((i+1)) ?_ ?_ ?_;(focus((refine zp rfl ?_ ?_ ?_<;>simp);all_goals(rw[IntKind.wrap_i64];omega))))|(refine s2 ?_;try with_reducible intro R hR)|fail)
 (all_goals(repeat(first|clear hR|clear hRA|clear hRn|clear hRr|clear hRe|clear hRL)))
 all_goals first|(have e:Yr p d=i:=(by grind[zpG,Qr,zP]);simp only[qu,zlu,hd,e,List.map_append,List.map_cons,List.map_nil,jI];done)|grind[zpG,Qr,zP]
def ltL (nm:ByteArray):List Ln→Nat
 |[]=>0
 |x::l=>if Op.bytesLess x.nm.toList nm.toList then 1+ltL nm l else 0
theorem zjd (nm:ByteArray):ltL nm []=0:=rfl
theorem yw (nm:ByteArray) (x:Ln) (l:List Ln):ltL nm (x::l)=if Op.bytesLess x.nm.toList nm.toList then 1+ltL nm l else 0:=rfl
def qY (nm:ByteArray) (l:List Ln):Bool:=match l.drop (ltL nm l)with
 |[]=>false
 |x::_=>x.nm.toList==nm.toList
theorem zjI {nm:ByteArray} {l:List Ln} {i:Nat} (h:i<l.length) (e:ltL nm l=i):qY nm l=(l[i].nm.toList==nm.toList):=by
 unfold qY;rw[e,zP h]
theorem zez {nm:ByteArray} {l:List Ln} {i:Nat} (h: ¬i<l.length) (e:ltL nm l=i):qY nm l=false:=by
 unfold qY;rw[e,List.drop_of_length_le (by omega)]
def ZK (g:jQ):Bool:=g.1==0&&(g.2.1==0&&g.2.2==0)
def jB (l:List Ln) (nm:ByteArray) (g:jQ):List Ln:=
 if !qY nm l&& !ZK g&&decide (8≤l.length)then l
 else l.take (ltL nm l)++(if ZK g then []else [⟨nm,g.1,g.2.1,g.2.2⟩])++l.drop (if qY nm l then ltL nm l+1 else ltL nm l)
theorem JG (p b lf:Int) (l:List Ln) (pe:Bool) (m:Int) (nm:ByteArray) (v w f:Int) (hl:l.length≤1048576):zu Tryz.prog 343 [Yb p b lf l pe m,gS nm,gR v w f] (Yb p b lf (jB l nm (v,w,f)) pe m):=by
 refine enx [.cell 6 43] Tryz.func343 fun X w0=>?_
 repeat'(first|(refine spl ?_ ?_<;>(intro hb;refine ne ?_))|(refine zl hR ?_;clear hR)|refine s1 ?_|exact True.intro|refine cal (Jj _ _ _ _ _ _ hl) ?_|(refine zB (zK 7 3 90 105 4 (by rfl) (by rfl) (by rfl)) ?_;refine zcK (ι:=Nat×List Ln×Nat) (fun x=>St.ofA [(1,gS nm),(3,.loc 3 0),(5,.loc 5 0),(6,.loc 6 0),(7,.loc 7 0),(8,gI x.1)] [(3,43,cH ⟨p,b,lf,l,pe,m⟩),(5,47,[.f (eI v),.f (eI w),.f (eI f)]),(6,43,cH zbr),(7,43,[.f (eI p),.f (eI b),.f (eI lf),.o 90,.f (eB pe),.f (eI m)])] [(90,x.2.2,105,4,x.2.1.map ZY)]) (fun x=>(ltL nm l=x.1+ltL nm (l.drop x.1)∧x.1≤l.length)∧l.take x.1=x.2.1∧x.2.1.length=x.1) (fun x=>l.length - x.1) (0,[],90) ?_ (by(refine zp rfl ?_ ?_ ?_<;>simp);done) (fun i hqi RL hRL=>?_);rotate_left;obtain⟨⟨hq1,hq2⟩,hq3,hq4⟩:=hqi;obtain⟨j,hj⟩: ∃j,i.1+1=j:=⟨_,rfl⟩;have e1:IntKind.i64.wrap ((i.1:Int)+1)=j:=(by rw[IntKind.wrap_i64];omega))|(exact False.elim hb)|(exact absurd True.intro hb)|refine rtl 8 [] ?_|refine rtl 6 [] ?_|refine lat ?_|(refine ztu (by assumption) ((j,i.2.1++[l[i.1]],36)) ?_ ?_ ?_;(focus((refine zp rfl ?_ ?_ ?_<;>simp);all_goals(rw[IntKind.wrap_i64];omega))))|(refine s2 ?_;try with_reducible intro R hR)|fail)
 (all_goals(repeat(first|clear hR|clear hRA|clear hRn|clear hRr|clear hRe|clear hRL)))
 all_goals first
  |grind[zjd,yw,zP,qJ,zjI,zez,jB,ZK]
  |(have ew:jB l nm (v,w,f)=i.2.1++[⟨nm,v,w,f⟩]++l.drop j:=(by grind[zjd,yw,zP,zjI,zez,jB,ZK]);simp[ew,ZY];done)
  |(have ew:jB l nm (v,w,f)=i.2.1++[⟨nm,v,w,f⟩]++l.drop i.1:=(by grind[zjd,yw,zP,zjI,zez,jB,ZK]);simp[ew,ZY];done)
theorem zxS (l:List Ln) (nm:ByteArray) (g:jQ):(jB l nm g).length≤l.length∨(jB l nm g).length≤8:=by
 unfold jB
 split
 ·exact .inl (Nat.le_refl _)
 ·rename_i h
  have hd:qY nm l=true→ltL nm l<l.length:=fun h=>by
   unfold qY at h
   split at h
   ·cases h
   ·rename_i x r e
    have:=congrArg List.length e
    simp at this
    omega
  cases hi:qY nm l
  ·rw[hi]at h
   cases hz:ZK g
   ·rw[hz]at h
    simp at h
    right
    simp
    omega
   ·left
    simp
  ·have:=hd hi
   left
   cases hz:ZK g<;>simp<;>omega
theorem za7 {l:List Ln} (nm:ByteArray) (g:jQ) (h:l.length≤1048576):(jB l nm g).length≤1048576:=by
 rcases zxS l nm g with h1|h1<;>omega
def zaL (h:Hf) (nm:ByteArray) (g:jQ):Hf:=⟨h.peer,h.boot,h.life,jB h.lines nm g,h.pend,h.miss⟩
def Qy (l:List Hf) (nm:ByteArray):List Hf:=l.map fun h=>zaL h nm noG
attribute [simp] zaL
theorem zpc (l:List Hf) (nm:ByteArray):(Qy l nm).length=l.length:=by simp[Qy]
theorem zsc {l:List Hf} {nm:ByteArray} {k:Nat} (h:k<l.length):(Qy l nm).take (k+1)=(Qy l nm).take k++[zaL l[k] nm noG]:=by
 rw[qJ (by simpa[Qy]using h)];simp[Qy]
theorem zgG (l:List Hf) (nm:ByteArray) (hl:HOk l):zu Tryz.prog 306 [Zs l,gS nm] (Zs (Qy l nm)):=by
 have hl1:=hl.1
 refine enx [.tmp 4] Tryz.func306 fun X w0=>?_
 repeat'(first|(refine spl ?_ ?_<;>(intro hb;refine ne ?_))|(refine zl hR ?_;clear hR)|refine s1 ?_|exact True.intro|refine cal (JG _ _ _ _ _ _ _ _ _ _ (hl.at (by assumption))) ?_|((with_reducible refine zO ?_);refine zgC 5 90 43 6 ?_;refine frx (ι:=List Hf×Nat) (l.length) (fun k x=>St.ofA [(0,Zs l),(1,gS nm),(5,.c (.o 90)),(6,gI k)] [] [(90,x.2,43,6,x.1.map jI)]) (fun k x=>(Qy l nm).take k=x.1∧x.1.length=k) ([],90) ?_ (fun k x hJ hk R hR=>?_))|refine fnx ((x.1++[zaL l[k] nm noG],22)) ?_ ?_|(refine s2 ?_;try with_reducible intro R hR)|fail)
 (all_goals(repeat(first|clear hR|clear hRA|clear hRn|clear hRr|clear hRe|clear hRL)))
 all_goals first|omega|grind[zsc,List.take_of_length_le,zpc]
def QG (me:Int) (h:Hf) (nm:ByteArray) (g:jQ):Hf×Bool:=
 let o:=findL nm h.lines
 if Qd g.1 g.2.1 g.2.2 me h.peer&&newR g.1 g.2.1 o.1 o.2.1 then(zaL h nm g,!zog (zaL h nm g) h)else(h,false)
theorem JI (me p b lf:Int) (l:List Ln) (pe:Bool) (m:Int) (nm:ByteArray) (v w f:Int) (hl:l.length≤1048576):zu Tryz.prog 349 [gI me,Yb p b lf l pe m,gS nm,gR v w f] (rHB (QG me ⟨p,b,lf,l,pe,m⟩ nm (v,w,f))):=by
 refine enx [.cell 8 43,.tmp 9] Tryz.func349 fun X w0=>?_
 repeat'(first|(refine spl ?_ ?_<;>(intro hb;refine ne ?_))|(refine zl hR ?_;clear hR)|refine s1 ?_|exact True.intro|refine rdb [] ?_|refine rex [] ?_|refine cad (ZE _ _ _ _ _) ?_|refine cad (zah _ _ _ _ _ _ _ hl) ?_|refine cad (zk4 _ _ _ _ _ _) ?_|refine cal (Jj _ _ _ _ _ _ hl) ?_|refine cal (JG _ _ _ _ _ _ _ _ _ _ hl) ?_|refine cad (zcG p b lf (jB l nm (v,w,f)) pe m _ _ _ _ _ _ (za7 nm (v,w,f) hl)) ?_|(refine s2 ?_;try with_reducible intro R hR)|fail)
 (all_goals(repeat(first|clear hR|clear hRA|clear hRn|clear hRr|clear hRe|clear hRL)))
 all_goals grind[QG,zaL]
structure Sn where
 id:Int
 bt:Int
 sq:Int
 tm:Int
def QD (x:Sn):List F:=[eI x.id,eI x.bt,eI x.sq,eI x.tm]
attribute [push_cast] QD
attribute [simp] QD
abbrev QN (l:List Sn):V:=.c (.f (.l 4 (l.map QD)))
abbrev cS (x:Sn):List C:=[.f (eI x.id),.f (eI x.bt),.f (eI x.sq),.f (eI x.tm)]
abbrev cT (x:Sn):List C:=[.f (eI x.bt),.f (eI x.sq),.f (eI x.id),.f (eI x.tm)]
abbrev gEs (x:Sn×Nat):List V:=[gI x.2,.agg (cT x.1)]
attribute [push_cast] gEs
theorem zzu (i b s t:Int):zu Tryz.prog 299 [.agg (cS ⟨i,b,s,t⟩)] (.agg (cT ⟨i,b,s,t⟩)):=by
 refine enx [.cell 2 184] Tryz.func299 fun X w0=>?_
 repeat'(first|(refine spl ?_ ?_<;>(intro hb;refine ne ?_))|(refine zl hR ?_;clear hR)|refine s1 ?_|exact True.intro|fail|(refine s2 ?_;try with_reducible intro R hR)|fail)
theorem Y4 (i b s t:Int):zu Tryz.prog 159 [.agg (cT ⟨i,b,s,t⟩)] (.agg (cS ⟨i,b,s,t⟩)):=by
 refine enx [.cell 2 94] Tryz.func159 fun X w0=>?_
 repeat'(first|(refine spl ?_ ?_<;>(intro hb;refine ne ?_))|(refine zl hR ?_;clear hR)|refine s1 ?_|exact True.intro|fail|(refine s2 ?_;try with_reducible intro R hR)|fail)
def latB (a b c d:Int):Bool:=decide (c<a)||(decide (a=c)&&decide (d<b))
theorem zcZ (a b c d:Int):zu Tryz.prog 160 [.agg [.f (eI a),.f (eI b)],.agg [.f (eI c),.f (eI d)]] (gB (latB a b c d)):=by
 refine enx [.tmp 4] Tryz.func160 fun X w0=>?_
 repeat'(first|(refine spl ?_ ?_<;>(intro hb;refine ne ?_))|(refine zl hR ?_;clear hR)|refine s1 ?_|exact True.intro|fail|(refine s2 ?_;try with_reducible intro R hR)|fail)
 all_goals(refine gz ?_;grind[latB])
theorem zhA (a b c d:Int):zu Tryz.prog 87 [gI a,gI b,gI c,gI d] (gB (latB a b c d)):=by
 refine enx [.tmp 8] Tryz.func87 fun X w0=>?_
 repeat'(first|(refine spl ?_ ?_<;>(intro hb;refine ne ?_))|(refine zl hR ?_;clear hR)|refine s1 ?_|exact True.intro|refine cal (zcZ _ _ _ _) ?_|(refine s2 ?_;try with_reducible intro R hR)|fail)
 all_goals(refine gz ?_;grind[])
theorem zrF (l:List Sn):zu Tryz.prog 230 [QN l] (.clo 298 [] [.rd [.l 4 (l.map QD)]]):=by
 refine enx [.tmp 2] Tryz.func230 fun X w0=>?_
 repeat'(first|(refine spl ?_ ?_<;>(intro hb;refine ne ?_))|(refine zl hR ?_;clear hR)|refine s1 ?_|exact True.intro|(refine fzx 1 ?_;refine jE ?_)|(refine s2 ?_;try with_reducible intro R hR)|fail)
theorem zuD (l:List Sn) (hl:l.length≤1048576) (M:Nat):Qx Tryz.prog 298 [.rd [.l 4 (l.map QD)]] (elL l.zipIdx gEs) M:=by
 refine Qh Tryz.func298 rfl (by decide) (by simp[Tryz.ntmps298]) rfl (fun I J yl hJ hY hM=>?_)
 repeat'(first|(refine spl ?_ ?_<;>(intro hb;refine ne ?_))|(refine ZC hR ?_;clear hR)|refine t1 ?_|exact True.intro|((with_reducible first|refine Qj ?_|refine Qk ?_);intro n hn;cases hn)|((with_reducible refine Yf ?_);refine zay (ι:=Unit) (l.length) (fun k _=>some k) (fun k _=>St.ofA [(0,yV yl),(5,QN l),(6,gI l.length),(7,gI k)] [] []) (fun k _=>True) () hJ (by omega) hT (by decide) (fun k x=>⟨by rfl,by rfl⟩) (by rfl) (fun X hb=>(by(refine Qn hb rfl ?_ ?_ ?_<;>simp);done)) ?_ (fun k x hqx hkk=>?_) (fun x hqx=>?_))|(refine zi1 hJ rfl fun X w0 hr hb=>?_;refine cal (zzu _ _ _ _) ?_)|(refine qM hY rfl rfl (by rfl) rfl (by simp only[push_cast,seval, *];exact(by rw[zmK (by simpa using hkk)];simp[gEs])) (by rfl) ?_ ?_<;>simp only[push_cast,seval, *])|(refine zn8 (()) rfl ?_ ?_ ?_;(focus(intro X hb;(refine Qn hb rfl ?_ ?_ ?_<;>simp);done));(focus(simp only[push_cast,seval, *];done)))|(refine t2 ?_;try with_reducible intro R hR)|fail)
 all_goals first|trivial|exact zjL (by simp)
def zd1 (id:Int):Nat→List Sn→Nat×Sn×Bool
 |k,[]=>(k,⟨id,0,0,0⟩,false)
 |k,x::l=>if id≤x.id then(if x.id=id then(k,x,true)else(k,⟨id,0,0,0⟩,false))else zd1 id (k+1) l
theorem ztV (id:Int) (k:Nat):zd1 id k []=(k,⟨id,0,0,0⟩,false):=rfl
theorem zhP (id:Int) (k:Nat) (x:Sn) (l:List Sn):zd1 id k (x::l)=if id≤x.id then(if x.id=id then(k,x,true)else(k,⟨id,0,0,0⟩,false))else zd1 id (k+1) l:=rfl
abbrev rFS (x:Nat×Sn×Bool):V:=.tup [(false,[.f (eI x.1)]),(true,cT x.2.1),(false,[.f (eB x.2.2)])]
theorem zud (l:List Sn) (id:Int) (hl:l.length≤1048576):zu Tryz.prog 158 [QN l,gI id] (rFS (zd1 id 0 l)):=by
 refine enx [.cell 4 3,.cell 5 184,.cell 6 4] Tryz.func158 fun X w0=>?_
 repeat'(first|(refine spl ?_ ?_<;>(intro hb;refine ne ?_))|(refine zl hR ?_;clear hR)|refine s1 ?_|exact True.intro|refine cal (zrF _) ?_|(first|(refine zjx (by assumption) ?_;intro XX I0 w2 RQ hRn hRr hRe)|refine ziM (by assumption) ?_|refine zjJ (by assumption) ?_)|refine Zw (ι:=Unit) [(0,QN l),(3,.loc 3 0),(4,.loc 4 0),(5,.loc 5 0),(6,.loc 6 0),(10,.clo 298 [] [.rd [.l 4 (l.map QD)]])] (fun _ _=>[(3,3,[.f (eI id)]),(4,3,[.f (eI 0)]),(5,184,[.f (eI 0),.f (eI 0),.f (eI 0),.f (eI 0)]),(6,4,[.f (eB false)])]) (fun _ _=>[]) (fun k _=>zd1 id 0 l=zd1 id k (l.drop k)∧True) () [3,4,5,6] (.inl rfl) (by(refine zp rfl ?_ ?_ ?_<;>simp);done) ?_ (by rfl) (by rfl) (by rfl) (by rfl) (by rfl) (zuD l hl _) (fun _=>by rfl) (by decide) (fun k x hkk hqx XX I0 Gr lr w1 hG RA hRA=>?_) (fun x hqx=>?_)|(refine zek (by assumption) (()) ?_ ?_;(focus((refine zp rfl ?_ ?_ ?_<;>simp);done)))|refine rdb [] ?_|refine rex [] ?_|(refine s2 ?_;try with_reducible intro R hR)|fail)
 all_goals(refine gz ?_;grind[ztV,zhP,zP,List.length_zipIdx])
end Go.Proofs.YtbcbnfiedgnfpaaGreat
namespace Go.Proofs.YtbcbnfiedgnfpaaGreat
open Go.Dl
theorem y4 (l:List UInt8):Op.bytesLess l l=false:=by
 induction l with
 |nil=>rfl
 |cons x l ih=>simp[Op.bytesLess,ih]
theorem Zg: ∀ {a b c:List UInt8},Op.bytesLess a b=true→Op.bytesLess b c=true→Op.bytesLess a c=true
 | _,[],_,h,_=>by simp[Op.bytesLess]at h
 | _,_::_,[],_,h=>by simp[Op.bytesLess]at h
 |[],_::_,_::_,_,_=>rfl
 | x::a,y::b,z::c,h1,h2=>by
  simp only[Op.bytesLess,Bool.or_eq_true,decide_eq_true_eq,Bool.and_eq_true,beq_iff_eq]at h1 h2 ⊢
  rcases h1 with h1|⟨rfl,h1⟩
  ·rcases h2 with h2|⟨rfl,h2⟩
   ·exact .inl (UInt8.lt_trans h1 h2)
   ·exact .inl h1
  ·rcases h2 with h2|⟨rfl,h2⟩
   ·exact .inl h2
   ·exact .inr ⟨rfl,Zg h1 h2⟩
theorem zdr: ∀ {a b:List UInt8},Op.bytesLess a b=false→a≠b→Op.bytesLess b a=true
 |[],[],_,h=>absurd rfl h
 |[],_::_,h,_=>by simp[Op.bytesLess]at h
 | _::_,[],_,_=>rfl
 | x::a,y::b,h,hne=>by
  simp only[Op.bytesLess]at h ⊢
  have ih:=@zdr a b
  rcases Nat.lt_trichotomy x.toNat y.toNat with h1|h1|h1
  ·have:x<y:=UInt8.lt_iff_toNat_lt.2 h1
   simp[this]at h
  ·have e:x=y:=UInt8.toNat_inj.1 h1
   subst e
   have:=ih (by simpa using h) (fun e=>hne (by rw[e]))
   simp[this]
  ·have:y<x:=UInt8.lt_iff_toNat_lt.2 h1
   simp[this]
theorem zoO {a b:List UInt8} (h:Op.bytesLess a b=true):Op.bytesLess b a=false:=by
 cases h1:Op.bytesLess b a
 ·rfl
 ·have:=Zg h h1;rw[y4]at this;cases this
theorem ztq {a b:List UInt8} (h:Op.bytesLess a b=true):(a==b)=false:=by
 cases h1:a==b
 ·rfl
 ·rw[eq_of_beq h1,y4]at h;cases h
theorem zfV {a b:List UInt8} (h:Op.bytesLess b a=true):(a==b)=false:=by
 cases h1:a==b
 ·rfl
 ·rw[eq_of_beq h1,y4]at h;cases h
theorem zf3 {a b:ByteArray} (h:(a.toList==b.toList)=true):a=b:=by
 have h:=eq_of_beq h
 rw[ByteArray.toList_eq,ByteArray.toList_eq]at h
 obtain⟨⟨a⟩⟩:=a
 obtain⟨⟨b⟩⟩:=b
 simpa using h
def SrtH (l:List Hf):Prop:=l.Pairwise fun a b=>a.peer<b.peer
def RngH (l:List Hf):Prop:=∀h∈l,0≤h.peer∧h.peer<16
theorem SrtH.tail {h:Hf} {l:List Hf} (hs:SrtH (h::l)):SrtH l:=(List.pairwise_cons.1 hs).2
theorem SrtH.head {h:Hf} {l:List Hf} (hs:SrtH (h::l)): ∀x∈l,h.peer<x.peer:=(List.pairwise_cons.1 hs).1
theorem RngH.tail {h:Hf} {l:List Hf} (hs:RngH (h::l)):RngH l:=fun x hx=>hs x (List.mem_cons_of_mem _ hx)
theorem Yo (p:Int) (h:Hf) (l:List Hf):findH p (h::l)=if h.peer=p then(h,true)else findH p l:=rfl
theorem zbQ {p:Int}: ∀ {l:List Hf},(∀h∈l,h.peer≠p)→findH p l=(zbr,false)
 |[],_=>rfl
 |x::l,h=>by
  rw[Yo,if_neg (h x (List.mem_cons_self ..))]
  exact zbQ fun y hy=>h y (List.mem_cons_of_mem _ hy)
theorem Jx {p:Int} {h:Hf}: ∀ {l:List Hf},findH p l=(h,true)→h∈l∧h.peer=p
 |[],e=>by simp[findH]at e
 |x::l,e=>by
  rw[Yo]at e
  split at e
  ·rename_i hx;injection e with e _;subst e;exact⟨List.mem_cons_self ..,hx⟩
  ·have:=Jx e;exact⟨List.mem_cons_of_mem _ this.1,this.2⟩
theorem Qv {p:Int}: ∀ {l:List Hf},(findH p l).2=false→findH p l=(zbr,false)∧∀h∈l,h.peer≠p
 |[],_=>⟨rfl,fun _ h=>by cases h⟩
 | x::l,e=>by
  rw[Yo]at e ⊢
  split at e
  ·cases e
  ·rename_i hx
   have:=Qv e
   rw[if_neg hx]
   refine⟨this.1,fun h hh=>?_⟩
   rcases List.mem_cons.1 hh with rfl|hh
   ·exact hx
   ·exact this.2 h hh
theorem zha {l:List Hf} (hs:SrtH l) {h:Hf} (hm:h∈l):findH h.peer l=(h,true):=by
 induction l with
 |nil=>cases hm
 | cons x l ih=>
  rw[Yo]
  rcases List.mem_cons.1 hm with rfl|hm
  ·rw[if_pos rfl]
  ·have:=hs.head h hm
   rw[if_neg (by omega)]
   exact ih hs.tail hm
theorem zjc {p:Int}: ∀ {l:List Hf} {k:Nat} (hk:k<Yr p l) (hl:k<l.length),l[k].peer<p
 |[],k,_,hl=>by simp at hl
 | h::l,k,hk,hl=>by
  rw[Qr]at hk
  split at hk
  ·rename_i hp
   cases k with
   |zero=>exact hp
   |succ k=>exact zjc (l:=l) (by omega) (by simpa using hl)
  ·omega
theorem ziA {p:Int}: ∀ {l:List Hf} (hs:SrtH l) {k:Nat} (hk:Yr p l≤k) (hl:k<l.length),p≤l[k].peer
 |[],_,k,_,hl=>by simp at hl
 | h::l,hs,k,hk,hl=>by
  rw[Qr]at hk
  split at hk
  ·cases k with
   |zero=>omega
   |succ k=>exact ziA (l:=l) hs.tail (by omega) (by simpa using hl)
  ·cases k with
   |zero=>show p≤h.peer;omega
   |succ k=>
    have hl':k<l.length:=by simpa using hl
    have:=hs.head l[k] (List.getElem_mem hl')
    show p≤l[k].peer
    omega
theorem zBa {l:List Hf} {p:Int} (hs:SrtH l) (hr:RngH l) (hp: -4611686018427387904≤p∧p≤4611686018427387904) (i j:Nat) (hij:i≤j) (hj:j≤l.length) (h1:i≤Yr p l) (h2:Yr p l≤j):bsH l p i j=Yr p l:=by
 induction hn:j - i using Nat.strongRecOn generalizing i j with
 | _ n ih=>
  by_cases h:i<j
  ·obtain⟨m,hm⟩: ∃m,(i+j) / 2=m:=⟨_,rfl⟩
   have hml:m<l.length:=by omega
   have hw:=hr _ (List.getElem_mem hml)
   have e:=yj (x:=(l.get ⟨m,hml⟩).peer - p) (by simp only[List.get_eq_getElem];omega)
   by_cases hc:l[m].peer<p
   ·rw[zyz l p i j m h hm hml (by rw[wr,e];simp only[List.get_eq_getElem];omega)]
    have:m<Yr p l:=Nat.lt_of_not_le fun hle=>by have:=ziA hs hle hml;omega
    exact ih (j - (m+1)) (by omega) (m+1) j (by omega) hj (by omega) h2 rfl
   ·rw[zyc l p i j m h hm hml (by rw[wr,e];simp only[List.get_eq_getElem];omega)]
    have:Yr p l≤m:=Nat.le_of_not_lt fun hlt=>by have:=zjc hlt hml;omega
    exact ih (m - i) (by omega) i m (by omega) (by omega) h1 this rfl
  ·rw[zpg _ _ _ _ h];omega
theorem zsC {l:List Hf} {p:Int} (hs:SrtH l) (hr:RngH l) (hp: -4611686018427387904≤p∧p≤4611686018427387904):atH l p=Yr p l:=zBa hs hr hp 0 l.length (Nat.zero_le _) (Nat.le_refl _) (Nat.zero_le _) (znO p l)
theorem zpi {x p:Int} (hx:0≤x∧x<16) (hp: -9223372036854775808≤p∧p≤9223372036854775807):wr (x - p)=0↔x=p:=by
 rw[wr,IntKind.wrap_i64];omega
theorem ziU {l:List Hf} {k:Nat} (h:k<l.length):l.getD k zbr=l[k]:=by simp[List.getD,h]
def hasP (p:Int) (l:List Hf):Bool:=(findH p l).2
theorem zmk {l:List Hf} {p:Int} (hr:RngH l) (hp: -9223372036854775808≤p∧p≤9223372036854775807) (h:isH l p=true): ∃hl:atH l p<l.length,l[atH l p].peer=p:=by
 unfold isH at h
 rw[Bool.and_eq_true,decide_eq_true_eq,decide_eq_true_eq]at h
 refine⟨h.1,?_⟩
 have h2:=h.2
 rw[ziU h.1]at h2
 exact(zpi (hr _ (List.getElem_mem h.1)) hp).1 h2
theorem zdD {l:List Hf} {p:Int} (hs:SrtH l) (hr:RngH l) (hp: -9223372036854775808≤p∧p≤9223372036854775807):zlR l p=findH p l:=by
 unfold zlR
 cases hi:isH l p
 ·rw[if_neg (by simp),zbQ]
  intro h hm he
  have hq:=hr h hm
  have ha:=zsC hs hr (p:=p) (by omega)
  obtain⟨k,hk,rfl⟩:=List.getElem_of_mem hm
  have h1:Yr p l≤k:=Nat.le_of_not_lt fun hlt=>by have:=zjc hlt hk;omega
  have h2:Yr p l=k:=by
   rcases Nat.lt_or_ge (Yr p l) k with h3|h3
   ·have h4:=ziA hs (Nat.le_refl (Yr p l)) (by omega)
    have h5:=List.pairwise_iff_getElem.1 hs (Yr p l) k (by omega) hk h3
    omega
   ·omega
  rw[isH,ha,h2,ziU hk]at hi
  simp[hk,(zpi hq hp).2 he]at hi
 ·obtain⟨hl,he⟩:=zmk hr hp hi
  rw[if_pos rfl,ziU hl]
  have:=zha hs (List.getElem_mem hl)
  rw[he]at this
  exact this.symm
theorem zjC {l:List Hf} {p:Int} (hs:SrtH l) (hr:RngH l) (hp: -9223372036854775808≤p∧p≤9223372036854775807):isH l p=hasP p l:=by
 rw[hasP,←zdD hs hr hp]
 unfold zlR
 cases isH l p<;>rfl
def getS (l:List Sn) (p:Int):Sn:=match l with
 |[]=>⟨p,0,0,0⟩
 |x::l=>if x.id=p then x else getS l p
theorem ztE (p:Int):getS [] p=⟨p,0,0,0⟩:=rfl
theorem j0 (x:Sn) (l:List Sn) (p:Int):getS (x::l) p=if x.id=p then x else getS l p:=rfl
def Jl (p:Int):List Sn→Nat
 |[]=>0
 |x::l=>if x.id<p then 1+Jl p l else 0
theorem zo2 (p:Int):Jl p []=0:=rfl
theorem ZT (p:Int) (x:Sn) (l:List Sn):Jl p (x::l)=if x.id<p then 1+Jl p l else 0:=rfl
theorem znp (p:Int): ∀(l:List Sn),Jl p l≤l.length
 |[]=>Nat.le_refl _
 |h::l=>by
  have:=znp p l
  rw[ZT]
  split
  ·simp;omega
  ·exact Nat.zero_le _
def isS (p:Int) (l:List Sn):Bool:=match l.drop (Jl p l)with
 |[]=>false
 |x::_=>decide (x.id=p)
theorem zyH {p:Int} {l:List Sn} {i:Nat} (h:i<l.length) (e:Jl p l=i):isS p l=decide (l[i].id=p):=by
 unfold isS;rw[e,zP h]
theorem zv2 {p:Int} {l:List Sn} {i:Nat} (h: ¬i<l.length) (e:Jl p l=i):isS p l=false:=by
 unfold isS;rw[e,List.drop_of_length_le (by omega)]
theorem zwe (p:Int):isS p []=false:=rfl
theorem zcH (p:Int) (x:Sn) (l:List Sn):isS p (x::l)=if x.id<p then isS p l else decide (x.id=p):=by
 unfold isS
 rw[ZT]
 by_cases h:x.id<p
 ·rw[if_pos h,if_pos h,Nat.add_comm,List.drop_succ_cons]
 ·rw[if_neg h,if_neg h];rfl
def qh (l:List Sn) (s:Sn):List Sn:=l.take (Jl s.id l)++(if s.bt=0∧s.tm=0 then []else [s])++l.drop (if isS s.id l then Jl s.id l+1 else Jl s.id l)
def SrtS (l:List Sn):Prop:=l.Pairwise fun a b=>a.id<b.id
theorem SrtS.tail {h:Sn} {l:List Sn} (hs:SrtS (h::l)):SrtS l:=(List.pairwise_cons.1 hs).2
theorem SrtS.head {h:Sn} {l:List Sn} (hs:SrtS (h::l)): ∀x∈l,h.id<x.id:=(List.pairwise_cons.1 hs).1
theorem Je {p:Int}: ∀ {l:List Sn},(∀x∈l,x.id≠p)→getS l p=⟨p,0,0,0⟩
 |[],_=>rfl
 |x::l,h=>by
  rw[j0,if_neg (h x (List.mem_cons_self ..))]
  exact Je fun y hy=>h y (List.mem_cons_of_mem _ hy)
theorem Zk: ∀(l:List Sn) (p:Int),(getS l p).id=p
 |[],p=>rfl
 |x::l,p=>by
  rw[j0]
  split
  ·assumption
  ·exact Zk l p
theorem zjX {p:Int}: ∀ {l:List Sn} (hs:SrtS l) (k:Nat),zd1 p k l=(k+Jl p l,getS l p,isS p l)
 |[],_,k=>rfl
 | x::l,hs,k=>by
  rw[zhP,ZT,j0,zcH]
  by_cases h:p≤x.id
  ·have hn: ¬x.id<p:=by omega
   by_cases he:x.id=p
   ·simp[he]
   ·have h0:getS l p=⟨p,0,0,0⟩:=Je fun y hy=>by have:=hs.head y hy;omega
    simp[he,hn,h0,h]
  ·have hn:x.id<p:=by omega
   have he: ¬x.id=p:=by omega
   rw[if_neg h,if_pos hn,if_neg he,if_pos hn,zjX hs.tail]
   simp;omega
theorem zaP {p:Int}: ∀ {l:List Sn} (hs:SrtS l),isS p l=true→∃hl:Jl p l<l.length,l[Jl p l]=getS l p
 |[],_,h=>by simp[zwe]at h
 | x::l,hs,h=>by
  rw[zcH]at h
  by_cases h1:x.id<p
  ·rw[if_pos h1]at h
   obtain⟨hl,he⟩:=zaP hs.tail h
   have e:Jl p (x::l)=Jl p l+1:=by rw[ZT,if_pos h1,Nat.add_comm]
   refine⟨by rw[e];simpa using hl,?_⟩
   simp only[e,List.getElem_cons_succ]
   rw[he,j0,if_neg (by omega)]
  ·rw[if_neg h1]at h
   have e:Jl p (x::l)=0:=by rw[ZT,if_neg h1]
   refine⟨by rw[e];simp,?_⟩
   simp only[e,List.getElem_cons_zero]
   rw[j0,if_pos (of_decide_eq_true h)]
theorem zj1 {p:Int}: ∀ {l:List Sn} (hs:SrtS l),isS p l=false→getS l p=⟨p,0,0,0⟩
 |[],_,_=>rfl
 | x::l,hs,h=>by
  rw[zcH]at h
  by_cases h1:x.id<p
  ·rw[if_pos h1]at h
   rw[j0,if_neg (by omega),zj1 hs.tail h]
  ·rw[if_neg h1]at h
   have h2:=of_decide_eq_false h
   exact Je fun y hy=>by
    rcases List.mem_cons.1 hy with rfl|hy
    ·exact h2
    ·have:=hs.head y hy;omega
theorem zqB {l:List Sn} {p:Int} (hs:SrtS l) (hz: ∀x∈l,¬(x.bt=0∧x.tm=0)):qh l (getS l p)=l:=by
 unfold qh
 rw[Zk]
 cases h:isS p l
 ·rw[zj1 hs h];simp
 ·obtain⟨hl,he⟩:=zaP hs h
  rw[if_neg (by rw[←he];exact hz _ (List.getElem_mem hl)),←he]
  simp
end Go.Proofs.YtbcbnfiedgnfpaaGreat
namespace Go.Proofs.YtbcbnfiedgnfpaaGreat
open Go.Dl
attribute [local irreducible] DW yE zY zA zu zky
attribute [local push_cast] zZ qF qC zN zM zD zE qH qE qz Go.Dl.qY yT qy List.mem_cons List.not_mem_nil or_false forall_eq false_implies implies_true
abbrev gS1 (x:Sn):V:=.agg (cS x)
theorem Sn.eta (x:Sn):(⟨x.id,x.bt,x.sq,x.tm⟩:Sn)=x:=rfl
attribute [push_cast] Sn.eta
theorem zd8 (n:Int):zu Tryz.prog 113 [gI n] (gB (nodeB n)):=by
 refine enx [.tmp 2] Tryz.func113 fun X w0=>?_
 repeat'(first|(refine spl ?_ ?_<;>(intro hb;refine ne ?_))|(refine zl hR ?_;clear hR)|refine s1 ?_|exact True.intro|fail|(refine s2 ?_;try with_reducible intro R hR)|fail)
 all_goals(refine gz ?_;grind[nodeB])
theorem QI (a b c d:Int):zu Tryz.prog 52 [gI a,gI b,gI c,gI d] (gB (latB a b c d)):=by
 refine enx [.tmp 8] Tryz.func52 fun X w0=>?_
 repeat'(first|(refine spl ?_ ?_<;>(intro hb;refine ne ?_))|(refine zl hR ?_;clear hR)|refine s1 ?_|exact True.intro|fail|(refine s2 ?_;try with_reducible intro R hR)|fail)
 all_goals(refine gz ?_;grind[latB])
theorem jD (l:List Sn) (p:Int) (hl:l.length≤1048576):zu Tryz.prog 50 [QN l,gI p] (gS1 (getS l p)):=by
 refine enx [.cell 4 94] Tryz.func50 fun X w0=>?_
 repeat'(first|(refine spl ?_ ?_<;>(intro hb;refine ne ?_))|(refine zl hR ?_;clear hR)|refine s1 ?_|exact True.intro|((with_reducible refine zO ?_);refine frx (ι:=Unit) (l.length) (fun k _=>St.ofA [(0,QN l),(1,gI p),(4,.loc 4 0),(5,gI k)] [(4,94,cS ⟨0,0,0,0⟩)] []) (fun k _=>getS l p=getS (l.drop k) p) () ?_ (fun k x hJ hk R hR=>?_))|refine fnx (()) ?_ ?_|(refine s2 ?_;try with_reducible intro R hR)|fail)
 all_goals(refine gz ?_;grind[ztE,j0,zP])
def okS (a:Int) (x:Sn):Bool:=nodeB x.id&& !decide (x.id=a)&&decide (0≤x.bt)&&decide (x.bt≤1099511627776)&&decide (0≤x.sq)&&decide (x.sq≤1099511627776)&&decide (0≤x.tm)&&decide (x.tm≤1099511627776)&& !(decide (x.bt=0)&&(!decide (x.sq=0)||decide (x.tm=0)))
def JW (a:Int):Option Int→List Sn→Bool
 | _,[]=>true
 |o,x::l=>okS a x&&(match o with|none=>true|some q=>decide (q<x.id))&&JW a (some x.id) l
def fitsS (a:Int) (l:List Sn):Bool:=JW a none l&&nodeB a
def zfj (l:List Sn) (k:Nat):Option Int:=(l.take k).getLast?.map (·.id)
theorem zfX (l:List Sn):zfj l 0=none:=rfl
theorem Jw {l:List Sn} {k:Nat} (h:k<l.length):zfj l (k+1)=some l[k].id:=by rw[zfj,qJ h,List.getLast?_concat];rfl
theorem zfG (a:Int) (l:List Sn) (hl:l.length≤1048576):zu Tryz.prog 47 [gI a,QN l] (gB (fitsS a l)):=by
 refine enx [.tmp 4] Tryz.func47 fun X w0=>?_
 repeat'(first|(refine spl ?_ ?_<;>(intro hb;refine ne ?_))|(refine zl hR ?_;clear hR)|refine s1 ?_|exact True.intro|((with_reducible refine zO ?_);refine frx (ι:=Unit) (l.length) (fun k _=>St.ofA [(0,gI a),(1,QN l),(5,gI k)] [] []) (fun k _=>JW a none l=JW a (zfj l k) (l.drop k)) () ?_ (fun k x hJ hk R hR=>?_))|(have hkl:k<l.length:=hb;rcases Nat.eq_zero_or_pos k with rfl|hk0;all_goals(first|(obtain⟨j,hj⟩: ∃j,j+1=k:=⟨k - 1,by omega⟩;have hp:zfj l k=some (l[j]'(by omega)).id:=(by subst hj;exact Jw _);have hjl:j<l.length:=(by omega);have e1:IntKind.i64.wrap ((k:Int) - 1)=j:=(by rw[IntKind.wrap_i64];omega);refine rdb [] ?_)|refine rdb [] ?_))|refine cad (zd8 _) ?_|refine cal (zd8 _) ?_|refine fnx (()) ?_ ?_|(refine s2 ?_;try with_reducible intro R hR)|fail)
 all_goals(refine gz ?_;grind[fitsS,JW,okS,zfX,Jw,zP])
theorem zvR:zep Tryz.prog 94 [some (.int .i64),some (.int .i64),some (.int .i64),some (.int .i64)]:=Jn (ks:=[.int .i64,.int .i64,.int .i64,.int .i64]) 3 (by decide) (by kernel_rfl) (by kernel_rfl) (by kernel_rfl)
attribute [push_cast] zvR
def zwR (x y:Sn):Bool:=x.id==y.id&&(x.bt==y.bt&&(x.sq==y.sq&&x.tm==y.tm))
def zgM:List Sn→List Sn→Bool
 |[],[]=>true
 |x::l,y::m=>zwR x y&&zgM l m
 | _,_=>false
theorem zs9:zgM [] []=true:=rfl
theorem zdo (x y:Sn) (l m:List Sn):zgM (x::l) (y::m)=(zwR x y&&zgM l m):=rfl
theorem zkN: ∀(l m:List Sn),l.length≠m.length→zgM l m=false
 |[],[],h=>absurd rfl h
 |[],_::_,_=>rfl
 | _::_,[],_=>rfl
 |x::l,y::m,h=>by rw[zdo,zkN l m (by simpa using h)];simp
theorem zkk (l m:List Sn) (hl:l.length≤1048576):zu Tryz.prog 62 [QN l,QN m] (gB (zgM l m)):=by
 refine enx [.tmp 4] Tryz.func62 fun X w0=>?_
 repeat'(first|(refine spl ?_ ?_<;>(intro hb;refine ne ?_))|(refine zl hR ?_;clear hR)|refine s1 ?_|exact True.intro|(have hlm:=zat hb;((with_reducible refine zO ?_);refine frx (ι:=Unit) (l.length) (fun k _=>St.ofA [(0,QN l),(1,QN m),(5,gI k)] [] []) (fun k _=>zgM l m=zgM (l.drop k) (m.drop k)) () ?_ (fun k x hJ hk R hR=>?_)))|(have hkm:k<m.length:=(by omega);refine rdb [] ?_)|refine fnx (()) ?_ ?_|(refine s2 ?_;try with_reducible intro R hR)|fail)
 all_goals(refine gz ?_;grind[zs9,zdo,zkN,zwR,zP])
theorem zpI (l:List Sn) (p b q t:Int) (hl:l.length≤1048576):zu Tryz.prog 302 [QN l,.agg [.f (eI p),.f (eI b),.f (eI q),.f (eI t)]] (QN (qh l ⟨p,b,q,t⟩)):=by
 refine enx [.tmp 4] Tryz.func302 fun X w0=>?_
 repeat'(first|(refine spl ?_ ?_<;>(intro hb;refine ne ?_))|(refine zl hR ?_;clear hR)|refine s1 ?_|exact True.intro|(refine zcK (ι:=Nat) (fun k=>St.ofA [(0,QN l),(3,.loc 3 0),(5,.c (.f (.s (.slice none 0 0)))),(6,gI k)] [(3,94,cS ⟨p,b,q,t⟩)] []) (fun k=>Jl p l=k+Jl p (l.drop k)∧k≤l.length) (fun k=>l.length - k) 0 ?_ (by(refine zp rfl ?_ ?_ ?_<;>simp);done) (fun i hqi RL hRL=>?_);rotate_left;obtain⟨hq1,hq2⟩:=hqi;obtain⟨j,hj⟩: ∃j,i+1=j:=⟨_,rfl⟩;have e1:IntKind.i64.wrap ((i:Int)+1)=j:=(by rw[IntKind.wrap_i64];omega))|refine rdb [] ?_|(refine ztu (by assumption) (j) ?_ ?_ ?_;(focus((refine zp rfl ?_ ?_ ?_<;>simp);all_goals(rw[IntKind.wrap_i64];omega))))|(refine s2 ?_;try with_reducible intro R hR)|fail)
 (all_goals(repeat(first|clear hR|clear hRA|clear hRn|clear hRr|clear hRe|clear hRL)))
 all_goals first
  |grind[zo2,ZT,zP]
  |(have e:Jl p l=i:=(by grind[zo2,ZT,zP]);simp only[qh,e];grind[zyH,zv2,QD])
def ZZ (s:Sn) (b lf:Int):Sn:=if latB b lf s.bt s.sq then⟨s.id,b,lf,s.tm⟩else s
theorem zbF (l:List Sn) (p b lf:Int) (hl:l.length≤1048576):zu Tryz.prog 254 [QN l,gI p,gI b,gI lf] (QN (qh l (ZZ (getS l p) b lf))):=by
 refine enx [.tmp 8] Tryz.func254 fun X w0=>?_
 repeat'(first|(refine spl ?_ ?_<;>(intro hb;refine ne ?_))|(refine zl hR ?_;clear hR)|refine s1 ?_|exact True.intro|refine cal (jD _ _ hl) ?_|refine cal (QI _ _ _ _) ?_|refine cal (zpI _ _ _ _ _ hl) ?_|(refine s2 ?_;try with_reducible intro R hR)|fail)
 all_goals(refine gz ?_;grind[ZZ])
def QL (s:Sn):Sn:=⟨s.id,s.bt,s.sq,if wr (s.tm+1)≤1099511627776 then wr (s.tm+1)else 1099511627776⟩
theorem zaz (l:List Sn) (p:Int) (hl:l.length≤1048576):zu Tryz.prog 237 [QN l,gI p] (QN (qh l (QL (getS l p)))):=by
 refine enx [.tmp 4] Tryz.func237 fun X w0=>?_
 repeat'(first|(refine spl ?_ ?_<;>(intro hb;refine ne ?_))|(refine zl hR ?_;clear hR)|refine s1 ?_|exact True.intro|refine cal (jD _ _ hl) ?_|refine cal (zpI _ _ _ _ _ hl) ?_|(refine s2 ?_;try with_reducible intro R hR)|fail)
 all_goals(refine gz ?_;grind[QL])
abbrev gP (k f t b l e el:Int) (its:List (List F)):V:=.agg [.f (eI k),.f (eI f),.f (eI t),.f (eI b),.f (eI l),.f (eI e),.f (eI el),.f (.l 19 its)]
def j9 (s:Sn) (boot k b lf e el:Int):Int:=if latB s.bt s.sq b lf then 1 else if !decide (k=1)&&decide (e=boot)&&decide (el=s.tm)then 2 else if decide (k=1)||decide (k=3)then 3 else 4
theorem zjt (l:List Sn) (boot k f t b lf e el:Int) (its:List (List F)) (hl:l.length≤1048576):zu Tryz.prog 252 [QN l,gI boot,gP k f t b lf e el its] (gI (j9 (getS l f) boot k b lf e el)):=by
 refine enx [.tmp 6] Tryz.func252 fun X w0=>?_
 repeat'(first|(refine spl ?_ ?_<;>(intro hb;refine ne ?_))|(refine zl hR ?_;clear hR)|refine s1 ?_|exact True.intro|refine cal (jD _ _ hl) ?_|refine cal (QI _ _ _ _) ?_|(refine s2 ?_;try with_reducible intro R hR)|fail)
 all_goals(refine gz ?_;grind[j9])
def Z4 (x:Hf×Bool) (b lf:Int):Bool:=!x.2||latB b lf x.1.boot x.1.life
theorem js (l:List Hf) (k f t b lf e el:Int) (its:List (List F)) (hl:HOk l):zu Tryz.prog 315 [Zs l,gP k f t b lf e el its] (gB (Z4 (findH f l) b lf)):=by
 refine enx [.tmp 4] Tryz.func315 fun X w0=>?_
 repeat'(first|(refine spl ?_ ?_<;>(intro hb;refine ne ?_))|(refine zl hR ?_;clear hR)|refine s1 ?_|exact True.intro|refine cal (ql _ _ hl) ?_|refine cal (QI _ _ _ _) ?_|(refine s2 ?_;try with_reducible intro R hR)|fail)
 all_goals(refine gz ?_;grind[Z4])
def ziy (x:Hf×Bool) (b lf:Int):Bool:=x.2&&decide (x.1.boot=b)&&decide (x.1.life=lf)
theorem ziB (l:List Hf) (k f t b lf e el:Int) (its:List (List F)) (hl:HOk l):zu Tryz.prog 256 [Zs l,gP k f t b lf e el its] (gB (ziy (findH f l) b lf)):=by
 refine enx [.tmp 4] Tryz.func256 fun X w0=>?_
 repeat'(first|(refine spl ?_ ?_<;>(intro hb;refine ne ?_))|(refine zl hR ?_;clear hR)|refine s1 ?_|exact True.intro|refine cal (ql _ _ hl) ?_|(refine s2 ?_;try with_reducible intro R hR)|fail)
 all_goals(refine gz ?_;grind[ziy])
theorem zcp (id b:Int) (l:List Sn) (p:Int) (hl:l.length≤1048576):zu Tryz.prog 251 [gI id,gI b,QN l,gI p] (gP 1 id p b (getS l p).tm 0 0 []):=by
 refine enx [.cell 8 30] Tryz.func251 fun X w0=>?_
 repeat'(first|(refine spl ?_ ?_<;>(intro hb;refine ne ?_))|(refine zl hR ?_;clear hR)|refine s1 ?_|exact True.intro|refine cal (jD _ _ hl) ?_|(refine s2 ?_;try with_reducible intro R hR)|fail)
theorem zf8 (id bo:Int) (l:List Sn) (k f t b lf e el:Int) (its:List (List F)) (hl:l.length≤1048576):zu Tryz.prog 253 [gI id,gI bo,QN l,gP k f t b lf e el its] (gP 2 id f bo (getS l f).tm b lf []):=by
 refine enx [.cell 8 30] Tryz.func253 fun X w0=>?_
 repeat'(first|(refine spl ?_ ?_<;>(intro hb;refine ne ?_))|(refine zl hR ?_;clear hR)|refine s1 ?_|exact True.intro|refine rdb [] ?_|refine cad (jD _ _ hl) ?_|(refine s2 ?_;try with_reducible intro R hR)|fail)
end Go.Proofs.YtbcbnfiedgnfpaaGreat
namespace Go.Proofs.YtbcbnfiedgnfpaaGreat
open Go.Dl
theorem zp0 (p:Int) (h:Hf) (l:List Hf):hasP p (h::l)=if h.peer=p then true else hasP p l:=by
 unfold hasP
 rw[Yo]
 split<;>rfl
theorem Jv (p:Int): ∀(d:Bool) (l:List Hf),(ZM p d l).1=l.filter fun h=>decide (h.peer≠p)
 |d,[]=>rfl
 |d,h::l=>by
  rw[zax]
  by_cases hp:h.peer=p
  ·rw[if_pos hp,Jv p true l];simp[hp]
  ·rw[if_neg hp];simp only;rw[Jv p d l];simp[hp]
theorem zmp {p:Int} {d:Bool}: ∀ {l:List Hf},(∀x∈l,x.peer≠p)→ZM p d l=(l,d)
 |[],_=>rfl
 |h::l,hn=>by
  rw[zax,if_neg (hn h (List.mem_cons_self ..)),zmp fun x hx=>hn x (List.mem_cons_of_mem _ hx)]
theorem zq5 {p:Int} {l:List Hf} (hn: ∀x∈l,x.peer≠p):hasP p l=false:=by
 unfold hasP;rw[zbQ hn]
theorem zmL {p:Int}: ∀ {l:List Hf},SrtH l→ZM p false l=if hasP p l then(l.take (Yr p l)++l.drop (Yr p l+1),true)else(l,false)
 |[],_=>rfl
 | h::l,hs=>by
  have ih:=zmL (p:=p) hs.tail
  have hh:=hs.head
  rw[zax,zp0,Qr]
  by_cases hp:h.peer=p
  ·have hn: ¬h.peer<p:=by omega
   have h0:ZM p true l=(l,true):=zmp fun x hx=>by have:=hh x hx;omega
   simp[hp,h0]
  ·rw[if_neg hp,if_neg hp,ih]
   by_cases hl:h.peer<p
   ·rw[if_pos hl]
    cases hasP p l
    ·simp
    ·simp[Nat.add_comm 1]
   ·have hn:hasP p l=false:=zq5 fun x hx=>by have:=hh x hx;omega
    simp[hn]
theorem zoR {p:Int} {b:List Hf}: ∀ {a:List Hf},(∀x∈a,x.peer<p)→Yr p (a++b)=a.length+Yr p b
 |[],_=>by simp
 |h::a,ha=>by
  rw[List.cons_append,Qr,if_pos (ha h (List.mem_cons_self ..)),zoR fun x hx=>ha x (List.mem_cons_of_mem _ hx)]
  simp;omega
theorem ztm {p:Int} {l:List Hf} (h: ∀x∈l,¬x.peer<p):Yr p l=0:=by
 cases l with
 |nil=>rfl
 |cons x l=>rw[Qr,if_neg (h x (List.mem_cons_self ..))]
theorem zo4 {p:Int} {l:List Hf}: ∀x∈l.take (Yr p l),x.peer<p:=fun x hx=>by
 obtain⟨k,hk,rfl⟩:=List.getElem_of_mem hx
 rw[List.getElem_take]
 rw[List.length_take]at hk
 exact zjc (by omega) (by omega)
theorem zjH {p:Int} {l:List Hf} (hs:SrtH l) {n:Nat} (hn:Yr p l≤n): ∀x∈l.drop n,p≤x.peer:=fun x hx=>by
 obtain⟨k,hk,rfl⟩:=List.getElem_of_mem hx
 rw[List.getElem_drop]
 rw[List.length_drop]at hk
 exact ziA hs (by omega) (by omega)
theorem zz3 {l:List Hf} {h:Hf} (hs:SrtH l):qu l h=if hasP h.peer l then l.take (Yr h.peer l)++[h]++l.drop (Yr h.peer l+1)else l.take (Yr h.peer l)++[h]++l.drop (Yr h.peer l):=by
 unfold qu
 rw[zmL hs]
 cases hasP h.peer l
 ·simp[zlu]
 ·have hle:=znO h.peer l
  have e:Yr h.peer (l.take (Yr h.peer l)++l.drop (Yr h.peer l+1))=Yr h.peer l:=by
   have e0:Yr h.peer (l.drop (Yr h.peer l+1))=0:=ztm fun x hx=>by have:=zjH hs (Nat.le_succ _) x hx;omega
   rw[zoR zo4,e0,List.length_take];omega
  have hl:(l.take (Yr h.peer l)).length=Yr h.peer l:=by rw[List.length_take];omega
  simp only[if_true,zlu,e]
  rw[List.take_left' hl,List.drop_left' hl]
theorem zcc {p:Int} {l:List Hf} {x:Hf}:x∈(ZM p false l).1↔x∈l∧x.peer≠p:=by
 rw[Jv,List.mem_filter];simp
theorem zoK {p:Int} {l:List Hf} (hs:SrtH l):SrtH (ZM p false l).1:=by
 rw[Jv];exact hs.filter _
theorem zxD {l:List Hf} {h x:Hf}:x∈zlu l h↔x=h∨x∈l:=by
 unfold zlu
 rw[List.mem_append,List.mem_append,List.mem_singleton]
 constructor
 ·rintro((h1|h1)|h1)
  ·exact .inr (List.mem_of_mem_take h1)
  ·exact .inl h1
  ·exact .inr (List.mem_of_mem_drop h1)
 ·rintro(h1|h1)
  ·exact .inl (.inr h1)
  ·rw[←List.take_append_drop (Yr h.peer l) l,List.mem_append]at h1
   exact h1.elim (fun h=>.inl (.inl h)) .inr
theorem zvO {l:List Hf} {h:Hf} (hs:SrtH l) (hn: ∀x∈l,x.peer≠h.peer):SrtH (zlu l h):=by
 unfold zlu SrtH
 rw[List.append_assoc,List.pairwise_append]
 refine⟨hs.sublist (List.take_sublist ..),?_,fun a ha b hb=>?_⟩
 ·rw[List.singleton_append,List.pairwise_cons]
  refine⟨fun x hx=>?_,hs.sublist (List.drop_sublist ..)⟩
  have:=zjH hs (Nat.le_refl _) x hx
  have:=hn x (List.mem_of_mem_drop hx)
  omega
 ·have h1:=zo4 a ha
  rcases List.mem_append.1 hb with hb|hb
  ·rw[List.mem_singleton.1 hb];exact h1
  ·have:=zjH hs (Nat.le_refl _) b hb;omega
theorem Jp {l:List Hf} {h x:Hf}:x∈qu l h↔x=h∨(x∈l∧x.peer≠h.peer):=by
 unfold qu;rw[zxD,zcc]
theorem zo0 {l:List Hf} {h:Hf} (hs:SrtH l):SrtH (qu l h):=
 zvO (zoK hs) fun x hx=>(zcc.1 hx).2
theorem zDj {p:Int} {l m:List Hf} (hl:SrtH l) (hm:SrtH m) (h: ∀x,x.peer=p→(x∈l↔x∈m)):findH p l=findH p m:=by
 rcases hf:findH p l with⟨x,b⟩
 cases b
 ·have h1:=Qv (p:=p) (l:=l) (by rw[hf])
  rw[←hf,h1.1,zbQ]
  intro y hy he
  exact h1.2 y ((h y he).2 hy) he
 ·have h1:=Jx hf
  have:=zha hm ((h x h1.2).1 h1.1)
  rw[h1.2]at this
  exact this.symm
theorem zg2 {l:List Hf} {h:Hf} (hs:SrtH l):findH h.peer (qu l h)=(h,true):=zha (zo0 hs) (Jp.2 (.inl rfl))
theorem zAr {p:Int} {l:List Hf} {h:Hf} (hs:SrtH l) (hp:p≠h.peer):findH p (qu l h)=findH p l:=
 zDj (zo0 hs) hs fun x hx=>by
  rw[Jp]
  constructor
  ·rintro(rfl|h1)
   ·exact absurd hx.symm hp
   ·exact h1.1
  ·exact fun h1=>.inr ⟨h1,by omega⟩
theorem zAp {p q:Int} {l:List Hf} (hs:SrtH l) (hp:p≠q):findH p (ZM q false l).1=findH p l:=
 zDj (zoK hs) hs fun x hx=>by
  rw[zcc]
  exact⟨fun h=>h.1,fun h=>⟨h,by omega⟩⟩
theorem zeK (nm:ByteArray): ∀(l:List Ln) (k:Nat),ZS nm k l=(k+ltL nm l,qY nm l)
 |[],k=>rfl
 | x::l,k=>by
  rw[zh8,yw]
  cases hq:x.nm.toList==nm.toList
  ·cases hb:Op.bytesLess x.nm.toList nm.toList
   ·have e:qY nm (x::l)=false:=by unfold qY;rw[yw,hb];simpa using hq
    simp[e]
   ·have e:qY nm (x::l)=qY nm l:=by unfold qY;rw[yw,hb,if_pos rfl,Nat.add_comm,List.drop_succ_cons]
    rw[zeK nm l (k+1),e]
    simp;omega
  ·have hb:Op.bytesLess x.nm.toList nm.toList=false:=by rw[eq_of_beq hq,y4]
   have e:qY nm (x::l)=true:=by unfold qY;rw[yw,hb];simpa using hq
   simp[hb,e]
def Y8 (l:List Ln):Prop:=l.Pairwise fun a b=>Op.bytesLess a.nm.toList b.nm.toList=true
theorem zfx {nm:ByteArray}: ∀ {l:List Ln},(∀x∈l,(x.nm.toList==nm.toList)=false)→findL nm l=noG
 |[],_=>rfl
 |x::l,h=>by
  have h0:=h x (List.mem_cons_self ..)
  simp only[findL,h0,Bool.false_eq_true,if_false]
  exact zfx fun y hy=>h y (List.mem_cons_of_mem _ hy)
theorem zqu (x:Ln) (l:List Ln) (nm:ByteArray):zjw (x::l) nm=if x.nm.toList==nm.toList then zlq x else if Op.bytesLess x.nm.toList nm.toList then zjw l nm else noG:=by
 unfold zjw
 rw[zeK,zeK,yw]
 cases hq:x.nm.toList==nm.toList
 ·cases hb:Op.bytesLess x.nm.toList nm.toList
  ·have e:qY nm (x::l)=false:=by unfold qY;rw[yw,hb];simpa using hq
   simp[e]
  ·have e:qY nm (x::l)=qY nm l:=by unfold qY;rw[yw,hb,if_pos rfl,Nat.add_comm,List.drop_succ_cons]
   simp only[e,if_true,Bool.false_eq_true,if_false,Nat.zero_add,Nat.add_comm 1,List.getD_cons_succ]
 ·have hb:Op.bytesLess x.nm.toList nm.toList=false:=by rw[eq_of_beq hq,y4]
  have e:qY nm (x::l)=true:=by unfold qY;rw[yw,hb];simpa using hq
  simp[hb,e]
theorem znJ {nm:ByteArray}: ∀ {l:List Ln},Y8 l→zjw l nm=findL nm l
 |[],_=>rfl
 | x::l,hs=>by
  have hs:=List.pairwise_cons.1 hs
  rw[zqu,findL]
  cases hq:x.nm.toList==nm.toList
  ·cases hb:Op.bytesLess x.nm.toList nm.toList
   ·have hx:Op.bytesLess nm.toList x.nm.toList=true:=zdr hb (by simpa using hq)
    rw[zfx fun y hy=>zfV (Zg hx (hs.1 y hy))]
    simp
   ·simp[znJ (nm:=nm) hs.2]
  ·simp
end Go.Proofs.YtbcbnfiedgnfpaaGreat
