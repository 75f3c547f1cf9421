import Derived.Test.YtbcbnfiedgnfpaaGreatZ10
import Derived.Test.YtbcbnfiedgnfpaaGreatZ11
set_option linter.unusedSimpArgs false
set_option linter.unusedVariables false
set_option maxRecDepth 100000
set_option maxHeartbeats 2000000
namespace Go.Proofs.YtbcbnfiedgnfpaaGreat
open Go.Dl
attribute [local irreducible] DW yE zY zA zu zky
attribute [local push_cast] zZ qF qC zN zM zD zE qH qE qz Go.Dl.qY yT qy List.mem_cons List.not_mem_nil or_false forall_eq false_implies implies_true
theorem ziW {l:List Hf} {p:Int} (h:isH l p=true):atH l p<l.length:=by
 simp[isH]at h;exact h.1
theorem za6 (l:List Hf) (p:Int) (b:Bool) (hl:HOk l) (hb:isH l p=b):zu Tryz.prog 224 [Zs l,gI p] (rIB (atH l p,b)):=by
 subst hb
 refine enx [.tmp 4,.tmp 5] Tryz.func224 fun X w0=>?_
 repeat'(first|(refine spl ?_ ?_<;>(intro hb;refine ne ?_))|(refine zl hR ?_;clear hR)|refine s1 ?_|exact True.intro|refine cal (zrm _ _ hl) ?_|(refine s2 ?_;try with_reducible intro R hR)|fail)
 all_goals(refine gz ?_;grind[])
def zlR (l:List Hf) (p:Int):Hf×Bool:=if isH l p then(l.getD (atH l p) zbr,true)else(zbr,false)
theorem zby (l:List Hf) (p:Int) (hl:HOk l):zu Tryz.prog 152 [Zs l,gI p] (rHB (zlR l p)):=by
 have hl1:=hl.1
 cases hi:isH l p
 ·refine enx [.cell 4 43,.tmp 5] Tryz.func152 fun X w0=>?_
  repeat'(first|(refine spl ?_ ?_<;>(intro hb;refine ne ?_))|(refine zl hR ?_;clear hR)|refine s1 ?_|exact True.intro|refine cal (za6 _ _ _ hl hi) ?_|(refine s2 ?_;try with_reducible intro R hR)|fail)
  all_goals(refine gz ?_;grind[zlR])
 ·have hlt:=ziW hi
  refine enx [.cell 4 43,.tmp 5] Tryz.func152 fun X w0=>?_
  repeat'(first|(refine spl ?_ ?_<;>(intro hb;refine ne ?_))|(refine zl hR ?_;clear hR)|refine s1 ?_|exact True.intro|refine cal (za6 _ _ _ hl hi) ?_|refine cal (QX _ _ _ _ _ _ (hl.at hlt)) ?_|(refine s2 ?_;try with_reducible intro R hR)|fail)
  all_goals(refine gz ?_;grind[zlR])
abbrev cN (x:Ln):List C:=[.f (eS x.nm),.f (eI x.ver),.f (eI x.wt),.f (eI x.fl)]
abbrev gEn (x:Ln×Nat):List V:=[gI x.2,.agg (cN x.1)]
attribute [push_cast] gEn List.length_zipIdx List.getElem_zipIdx
theorem zzw (l:List Ln) (hl:l.length≤1048576) (M:Nat):Qx Tryz.prog 364 [.rd [.l 4 (l.map ZY)]] (elL l.zipIdx gEn) M:=by
 refine Qh Tryz.func364 rfl (by decide) (by simp[Tryz.ntmps364]) rfl (fun I J yl hJ hY hM=>?_)
 repeat'(first|(refine spl ?_ ?_<;>(intro hb;refine ne ?_))|(refine ZC hR ?_;clear hR)|refine t1 ?_|exact True.intro|((with_reducible first|refine Qj ?_|refine Qk ?_);intro n hn;cases hn)|((with_reducible refine Yf ?_);refine zay (ι:=Unit) (l.length) (fun k _=>some k) (fun k _=>St.ofA [(0,yV yl),(5,gNs l),(6,gI l.length),(7,gI k)] [] []) (fun k _=>True) () hJ (by omega) hT (by decide) (fun k x=>⟨by rfl,by rfl⟩) (by rfl) (fun X hb=>(by(refine Qn hb rfl ?_ ?_ ?_<;>simp);done)) ?_ (fun k x hqx hkk=>?_) (fun x hqx=>?_))|(refine qM hY rfl rfl (by rfl) rfl (by simp only[push_cast,seval, *];exact(by rw[zmK (by simpa using hkk)];simp[gEn])) (by rfl) ?_ ?_<;>simp only[push_cast,seval, *])|(refine zn8 (()) rfl ?_ ?_ ?_;(focus(intro X hb;(refine Qn hb rfl ?_ ?_ ?_<;>simp);done));(focus(simp only[push_cast,seval, *];done)))|(refine t2 ?_;try with_reducible intro R hR)|fail)
 all_goals first|trivial|exact zjL (by simp)
theorem zy4 (l:List Ln):zu Tryz.prog 342 [gNs l] (.clo 364 [] [.rd [.l 4 (l.map ZY)]]):=by
 refine enx [.tmp 2] Tryz.func342 fun X w0=>?_
 repeat'(first|(refine spl ?_ ?_<;>(intro hb;refine ne ?_))|(refine zl hR ?_;clear hR)|refine s1 ?_|exact True.intro|(refine fzx 1 ?_;refine jE ?_)|(refine s2 ?_;try with_reducible intro R hR)|fail)
theorem zwg (p b lf:Int) (l:List Ln) (pe:Bool) (m:Int):zu Tryz.prog 295 [Yb p b lf l pe m] (.clo 364 [] [.rd [.l 4 (l.map ZY)]]):=by
 refine enx [.tmp 2] Tryz.func295 fun X w0=>?_
 repeat'(first|(refine spl ?_ ?_<;>(intro hb;refine ne ?_))|(refine zl hR ?_;clear hR)|refine s1 ?_|exact True.intro|refine cal (zy4 _) ?_|(refine s2 ?_;try with_reducible intro R hR)|fail)
def ZS (nm:ByteArray):Nat→List Ln→Nat×Bool
 |k,[]=>(k,false)
 |k,x::l=>if x.nm.toList==nm.toList then(k,true)else if !Op.bytesLess x.nm.toList nm.toList then(k,false)else ZS nm (k+1) l
theorem zpH (nm:ByteArray): ∀(l:List Ln) (k:Nat),k≤(ZS nm k l).1∧(ZS nm k l).1≤k+l.length∧((ZS nm k l).2=true→(ZS nm k l).1<k+l.length)
 |[],k=>by simp[ZS]
 | x::l,k=>by
  have:=zpH nm l (k+1)
  unfold ZS
  split
  ·simp
  ·split
   ·simp
   ·simp only[List.length_cons]
    exact⟨by omega,by omega,fun h=>by have:=this.2.2 h;omega⟩
theorem zux (nm:ByteArray) (k:Nat):ZS nm k []=(k,false):=rfl
theorem zh8 (nm:ByteArray) (k:Nat) (x:Ln) (l:List Ln):ZS nm k (x::l)=if x.nm.toList==nm.toList then(k,true)else if !Op.bytesLess x.nm.toList nm.toList then(k,false)else ZS nm (k+1) l:=rfl
theorem zmB (p b lf:Int) (l:List Ln) (pe:Bool) (m:Int) (nm:ByteArray) (hl:l.length≤1048576):zu Tryz.prog 225 [Yb p b lf l pe m,gS nm] (rIB ((ZS nm 0 l).1,(ZS nm 0 l).2)):=by
 refine enx [.tmp 4,.tmp 5] Tryz.func225 fun X w0=>?_
 repeat'(first|(refine spl ?_ ?_<;>(intro hb;refine ne ?_))|(refine zl hR ?_;clear hR)|refine s1 ?_|exact True.intro|refine cal (zwg _ _ _ _ _ _) ?_|(with_reducible refine qR rfl ?_)|(with_reducible refine qT ?_)|(dsimp only[YT])|(first|(refine zjx (by assumption) ?_;intro XX I0 w2 RQ hRn hRr hRe)|refine ziM (by assumption) ?_|refine zjJ (by assumption) ?_)|refine Zw (ι:=Unit) [(3,.loc 3 0),(6,.loc 6 0),(7,.loc 7 0),(14,.clo 364 [] [.rd [.l 4 (l.map ZY)]])] (fun _ _=>[(3,9,[.f (eS nm)]),(6,3,[.f (eI l.length)]),(7,4,[.f (eB false)])]) (fun _ _=>[]) (fun k _=>ZS nm 0 l=ZS nm k (l.drop k)∧True) () [3,6,7] (.inl rfl) (by(refine zp rfl ?_ ?_ ?_<;>simp);done) ?_ (by rfl) (by rfl) (by rfl) (by rfl) (by rfl) (zzw l hl _) (fun _=>by rfl) (by decide) (fun k x hkk hqx XX I0 Gr lr w1 hG RA hRA=>?_) (fun x hqx=>?_)|(refine zek (by assumption) (()) ?_ ?_;(focus((refine zp rfl ?_ ?_ ?_<;>simp);done)))|refine rdb [] ?_|(refine s2 ?_;try with_reducible intro R hR)|fail)
 all_goals(refine gz ?_;grind[zux,zh8,zP,List.length_zipIdx])
abbrev gG (x:jQ):V:=.agg [.f (eI x.1),.f (eI x.2.1),.f (eI x.2.2)]
abbrev noG:jQ:=(0,0,0)
abbrev noN:Ln:=⟨⟨#[]⟩,0,0,0⟩
def zlq (x:Ln):jQ:=(x.ver,x.wt,x.fl)
def zjw (l:List Ln) (nm:ByteArray):jQ:=if(ZS nm 0 l).2 then zlq (l.getD (ZS nm 0 l).1 noN)else noG
theorem zdc (p b lf:Int) (l:List Ln) (pe:Bool) (m:Int) (nm:ByteArray) (hl:l.length≤1048576):zu Tryz.prog 153 [Yb p b lf l pe m,gS nm] (gG (zjw l nm)):=by
 have hs:=zpH nm l 0
 cases hi:(ZS nm 0 l).2
 ·refine enx [.cell 4 47] Tryz.func153 fun X w0=>?_
  repeat'(first|(refine spl ?_ ?_<;>(intro hb;refine ne ?_))|(refine zl hR ?_;clear hR)|refine s1 ?_|exact True.intro|(refine cal (zmB _ _ _ _ _ _ _ hl) ?_;try simp only[hi])|(refine s2 ?_;try with_reducible intro R hR)|fail)
  all_goals(refine gz ?_;grind[zjw])
 ·have hlt:(ZS nm 0 l).1<l.length:=by have:=hs.2.2 hi;omega
  refine enx [.cell 4 47] Tryz.func153 fun X w0=>?_
  repeat'(first|(refine spl ?_ ?_<;>(intro hb;refine ne ?_))|(refine zl hR ?_;clear hR)|refine s1 ?_|exact True.intro|(refine cal (zmB _ _ _ _ _ _ _ hl) ?_;try simp only[hi])|(refine s2 ?_;try with_reducible intro R hR)|fail)
  all_goals(refine gz ?_;grind[zjw,zlq])
def findL (nm:ByteArray):List Ln→jQ
 |[]=>noG
 |x::l=>if x.nm.toList==nm.toList then zlq x else findL nm l
theorem zah (p b lf:Int) (l:List Ln) (pe:Bool) (m:Int) (nm:ByteArray) (hl:l.length≤1048576):zu Tryz.prog 18 [Yb p b lf l pe m,gS nm] (gG (findL nm l)):=by
 refine enx [.cell 4 47] Tryz.func18 fun X w0=>?_
 repeat'(first|(refine spl ?_ ?_<;>(intro hb;refine ne ?_))|(refine zl hR ?_;clear hR)|refine s1 ?_|exact True.intro|((with_reducible refine zO ?_);refine frx (ι:=Unit) (l.length) (fun k _=>St.ofA [(1,gS nm),(2,.loc 2 0),(4,.loc 4 0),(5,gI k)] [(2,43,cH ⟨p,b,lf,l,pe,m⟩),(4,47,[.f (eI 0),.f (eI 0),.f (eI 0)])] []) (fun k _=>findL nm l=findL nm (l.drop k)) () ?_ (fun k x hJ hk R hR=>?_))|refine fnx (()) ?_ ?_|(refine s2 ?_;try with_reducible intro R hR)|fail)
 all_goals(refine gz ?_;grind[findL,zP,zlq])
theorem zfO (s:ByteArray) (hl:s.size≤1048576):zu Tryz.prog 226 [gS s] (gB (jr s)):=by
 refine enx [.tmp 2] Tryz.func226 fun X w0=>?_
 repeat'(first|(refine spl ?_ ?_<;>(intro hb;refine ne ?_))|(refine zl hR ?_;clear hR)|refine s1 ?_|exact True.intro|((with_reducible refine zW ?_);refine rgx (ι:=Unit) (s.size) (fun k _=>St.ofA [(0,gS s),(6,gI s.size),(7,gI k)] [] []) (fun k _=>ZP s.data.toList=ZP (s.data.toList.drop k)) () ?_ (fun k x hJ hk=>?_) (fun x hJ=>?_))|refine rnx (()) ?_|(refine s2 ?_;try with_reducible intro R hR)|fail)
 all_goals(refine gz ?_;grind[jr,zfF,Ya,Qq,J9,Jh])
theorem zbR (s:ByteArray) (hl:s.size≤1048576):zu Tryz.prog 181 [gS s] (gB (jr s)):=by
 refine enx [.tmp 2] Tryz.func181 fun X w0=>?_
 repeat'(first|(refine spl ?_ ?_<;>(intro hb;refine ne ?_))|(refine zl hR ?_;clear hR)|refine s1 ?_|exact True.intro|((with_reducible refine zO ?_);refine frx (ι:=Unit) (s.size) (fun k _=>St.ofA [(0,gS s),(3,gI k)] [] []) (fun k _=>ZP s.data.toList=ZP (s.data.toList.drop k)) () ?_ (fun k x hJ hk R hR=>?_))|refine fnx (()) ?_ ?_|(refine s2 ?_;try with_reducible intro R hR)|fail)
 all_goals(refine gz ?_;grind[jr,zfF,Ya,Qq,J9,Jh])
theorem zas (n:Int):zu Tryz.prog 115 [gI n] (gB (nodeB n)):=by
 refine enx [.tmp 2] Tryz.func115 fun X w0=>?_
 repeat'(first|(refine spl ?_ ?_<;>(intro hb;refine ne ?_))|(refine zl hR ?_;clear hR)|refine s1 ?_|exact True.intro|fail|(refine s2 ?_;try with_reducible intro R hR)|fail)
 all_goals(refine gz ?_;grind[nodeB])
def zae (l:List Ln) (k:Nat):Option ByteArray:=(l.take k).getLast?.map (·.nm)
theorem Ju (l:List Ln):zae l 0=none:=rfl
theorem jO {l:List Ln} {k:Nat} (h:k<l.length):zae l (k+1)=some l[k].nm:=by rw[zae,qJ h,List.getLast?_concat];rfl
def Ze (a p:Int):Option ByteArray→List Ln→Bool
 | _,[]=>true
 |o,x::l=>jr x.nm&&(match o with|none=>true|some q=>Op.bytesLess q.toList x.nm.toList)&& !(decide (x.ver=0)&&decide (x.wt=0)&&decide (x.fl=0))&&Qd x.ver x.wt x.fl a p&&Ze a p (some x.nm) l
def JT (a p b lf:Int) (ls:List Ln) (pe:Bool) (m:Int):Bool:=nodeB a&&nodeB p&& !decide (a=p)&&decide (1≤b)&&decide (b≤1099511627776)&&decide (0≤lf)&&decide (lf≤1099511627776)&&decide (0≤m)&&decide (m<3)&&(decide (m≤0)||pe)&&decide (ls.length≤8)&&Ze a p none ls
theorem zqe (a p b lf:Int) (l:List Ln) (m:Int) (hl:l.length≤1048576) (hn: ∀x∈l,x.nm.size≤1048576):zu Tryz.prog 154 [gI a,Yb p b lf l true m] (gB (JT a p b lf l true m)):=by
 refine enx [.tmp 4] Tryz.func154 fun X w0=>?_
 repeat'(first|(refine spl ?_ ?_<;>(intro hb;refine ne ?_))|(refine zl hR ?_;clear hR)|refine s1 ?_|exact True.intro|(((with_reducible refine zW ?_);refine rgx (ι:=Unit) (l.length) (fun k _=>St.ofA [(0,gI a),(3,.loc 3 0),(74,gNs l),(75,gI l.length),(76,gI k)] [(3,43,cH ⟨p,b,lf,l,true,m⟩)] []) (fun k _=>Ze a p none l=Ze a p (zae l k) (l.drop k)) () ?_ (fun k x hJ hk=>?_) (fun x hJ=>?_));rotate_left;have hnk:=hn _ (List.getElem_mem hk);rcases Nat.eq_zero_or_pos k with rfl|hk0;rotate_left;obtain⟨j,hj⟩: ∃j,j+1=k:=⟨k - 1,by omega⟩;have hp:zae l k=some (l[j]'(by omega)).nm:=(by subst hj;exact jO _);have hjl:j<l.length:=(by omega);have e1:IntKind.i64.wrap ((k:Int) - 1)=j:=(by rw[IntKind.wrap_i64];omega))|refine rdb [] ?_|refine cad (zfO _ hnk) ?_|refine cad (Yi _ _ _ _ _) ?_|refine rnx (()) ?_|(refine s2 ?_;try with_reducible intro R hR)|fail)
 all_goals(refine gz ?_;grind[JT,Ze,Ju,jO,zP,nodeB])
theorem zpZ (a p b lf:Int) (l:List Ln) (m:Int) (hl:l.length≤1048576) (hn: ∀x∈l,x.nm.size≤1048576):zu Tryz.prog 154 [gI a,Yb p b lf l false m] (gB (JT a p b lf l false m)):=by
 refine enx [.tmp 4] Tryz.func154 fun X w0=>?_
 repeat'(first|(refine spl ?_ ?_<;>(intro hb;refine ne ?_))|(refine zl hR ?_;clear hR)|refine s1 ?_|exact True.intro|(((with_reducible refine zW ?_);refine rgx (ι:=Unit) (l.length) (fun k _=>St.ofA [(0,gI a),(3,.loc 3 0),(74,gNs l),(75,gI l.length),(76,gI k)] [(3,43,cH ⟨p,b,lf,l,false,m⟩)] []) (fun k _=>Ze a p none l=Ze a p (zae l k) (l.drop k)) () ?_ (fun k x hJ hk=>?_) (fun x hJ=>?_));rotate_left;have hnk:=hn _ (List.getElem_mem hk);rcases Nat.eq_zero_or_pos k with rfl|hk0;rotate_left;obtain⟨j,hj⟩: ∃j,j+1=k:=⟨k - 1,by omega⟩;have hp:zae l k=some (l[j]'(by omega)).nm:=(by subst hj;exact jO _);have hjl:j<l.length:=(by omega);have e1:IntKind.i64.wrap ((k:Int) - 1)=j:=(by rw[IntKind.wrap_i64];omega))|refine rdb [] ?_|refine cad (zfO _ hnk) ?_|refine cad (Yi _ _ _ _ _) ?_|refine rnx (()) ?_|(refine s2 ?_;try with_reducible intro R hR)|fail)
 all_goals(refine gz ?_;grind[JT,Ze,Ju,jO,zP,nodeB])
theorem znN (a p b lf:Int) (l:List Ln) (m:Int) (hl:l.length≤1048576) (hn: ∀x∈l,x.nm.size≤1048576):zu Tryz.prog 114 [gI a,Yb p b lf l true m] (gB (JT a p b lf l true m)):=by
 refine enx [.tmp 4] Tryz.func114 fun X w0=>?_
 repeat'(first|(refine spl ?_ ?_<;>(intro hb;refine ne ?_))|(refine zl hR ?_;clear hR)|refine s1 ?_|exact True.intro|(((with_reducible refine zO ?_);refine frx (ι:=Unit) (l.length) (fun k _=>St.ofA [(0,gI a),(3,.loc 3 0),(5,gI k)] [(3,43,cH ⟨p,b,lf,l,true,m⟩)] []) (fun k _=>Ze a p none l=Ze a p (zae l k) (l.drop k)) () ?_ (fun k x hJ hk R hR=>?_)))|refine cal (zas _) ?_|(have hnk:=hn _ (List.getElem_mem hb);rcases Nat.eq_zero_or_pos k with rfl|hk0;all_goals(first|(obtain⟨j,hj⟩: ∃j,j+1=k:=⟨k - 1,by omega⟩;have hp:zae l k=some (l[j]'(by omega)).nm:=(by subst hj;exact jO _);have hjl:j<l.length:=(by omega);have e1:IntKind.i64.wrap ((k:Int) - 1)=j:=(by rw[IntKind.wrap_i64];omega);refine rdb [] ?_)|refine rdb [] ?_))|refine cad (zbR _ hnk) ?_|refine cad (ZE _ _ _ _ _) ?_|refine fnx (()) ?_ ?_|(refine s2 ?_;try with_reducible intro R hR)|fail)
 all_goals(refine gz ?_;grind[JT,Ze,Ju,jO,zP])
theorem znA (a p b lf:Int) (l:List Ln) (m:Int) (hl:l.length≤1048576) (hn: ∀x∈l,x.nm.size≤1048576):zu Tryz.prog 114 [gI a,Yb p b lf l false m] (gB (JT a p b lf l false m)):=by
 refine enx [.tmp 4] Tryz.func114 fun X w0=>?_
 repeat'(first|(refine spl ?_ ?_<;>(intro hb;refine ne ?_))|(refine zl hR ?_;clear hR)|refine s1 ?_|exact True.intro|(((with_reducible refine zO ?_);refine frx (ι:=Unit) (l.length) (fun k _=>St.ofA [(0,gI a),(3,.loc 3 0),(5,gI k)] [(3,43,cH ⟨p,b,lf,l,false,m⟩)] []) (fun k _=>Ze a p none l=Ze a p (zae l k) (l.drop k)) () ?_ (fun k x hJ hk R hR=>?_)))|refine cal (zas _) ?_|(have hnk:=hn _ (List.getElem_mem hb);rcases Nat.eq_zero_or_pos k with rfl|hk0;all_goals(first|(obtain⟨j,hj⟩: ∃j,j+1=k:=⟨k - 1,by omega⟩;have hp:zae l k=some (l[j]'(by omega)).nm:=(by subst hj;exact jO _);have hjl:j<l.length:=(by omega);have e1:IntKind.i64.wrap ((k:Int) - 1)=j:=(by rw[IntKind.wrap_i64];omega);refine rdb [] ?_)|refine rdb [] ?_))|refine cad (zbR _ hnk) ?_|refine cad (ZE _ _ _ _ _) ?_|refine fnx (()) ?_ ?_|(refine s2 ?_;try with_reducible intro R hR)|fail)
 all_goals(refine gz ?_;grind[JT,Ze,Ju,jO,zP])
def HNk (h:Hf):Prop:=h.lines.length≤1048576∧∀x∈h.lines,x.nm.size≤1048576
theorem zqq (a p b lf:Int) (l:List Ln) (pe:Bool) (m:Int) (h:HNk ⟨p,b,lf,l,pe,m⟩):zu Tryz.prog 154 [gI a,Yb p b lf l pe m] (gB (JT a p b lf l pe m)):=by
 cases pe
 ·exact zpZ _ _ _ _ _ _ h.1 h.2
 ·exact zqe _ _ _ _ _ _ h.1 h.2
theorem zmS (a p b lf:Int) (l:List Ln) (pe:Bool) (m:Int) (h:HNk ⟨p,b,lf,l,pe,m⟩):zu Tryz.prog 114 [gI a,Yb p b lf l pe m] (gB (JT a p b lf l pe m)):=by
 cases pe
 ·exact znA _ _ _ _ _ _ h.1 h.2
 ·exact znN _ _ _ _ _ _ h.1 h.2
def zf2 (l:List Hf) (k:Nat):Option Int:=(l.take k).getLast?.map (·.peer)
theorem zgk (l:List Hf):zf2 l 0=none:=rfl
theorem JR {l:List Hf} {k:Nat} (h:k<l.length):zf2 l (k+1)=some l[k].peer:=by rw[zf2,qJ h,List.getLast?_concat];rfl
def qQ (a:Int) (h:Hf):Bool:=JT a h.peer h.boot h.life h.lines h.pend h.miss
def YH (a:Int):Option Int→List Hf→Bool
 | _,[]=>true
 |o,h::l=>qQ a h&&(match o with|none=>true|some q=>decide (q<h.peer))&&YH a (some h.peer) l
def fitsH (a:Int) (l:List Hf):Bool:=YH a none l&&nodeB a
theorem zfS (a:Int) (l:List Hf) (hl:l.length≤1048576) (hn: ∀h∈l,HNk h):zu Tryz.prog 84 [gI a,Zs l] (gB (fitsH a l)):=by
 refine enx [.tmp 4] Tryz.func84 fun X w0=>?_
 repeat'(first|(refine spl ?_ ?_<;>(intro hb;refine ne ?_))|(refine zl hR ?_;clear hR)|refine s1 ?_|exact True.intro|(((with_reducible refine zW ?_);refine rgx (ι:=Unit) (l.length) (fun k _=>St.ofA [(0,gI a),(1,Zs l),(7,Zs l),(8,gI l.length),(9,gI k)] [] []) (fun k _=>YH a none l=YH a (zf2 l k) (l.drop k)) () ?_ (fun k x hJ hk=>?_) (fun x hJ=>?_));rotate_left;(have hnk:=hn _ (List.getElem_mem hk);rcases Nat.eq_zero_or_pos k with rfl|hk0;rotate_left;obtain⟨j,hj⟩: ∃j,j+1=k:=⟨k - 1,by omega⟩;have hp:zf2 l k=some (l[j]'(by omega)).peer:=(by subst hj;exact JR _);have hjl:j<l.length:=(by omega);have e1:IntKind.i64.wrap ((k:Int) - 1)=j:=(by rw[IntKind.wrap_i64];omega)))|refine rdb [] ?_|refine cad (zqq _ _ _ _ _ _ _ hnk) ?_|refine rnx (()) ?_|(refine s2 ?_;try with_reducible intro R hR)|fail)
 all_goals(refine gz ?_;grind[fitsH,YH,qQ,zgk,JR,zP,nodeB])
theorem zdW (a:Int) (l:List Hf) (hl:l.length≤1048576) (hn: ∀h∈l,HNk h):zu Tryz.prog 48 [gI a,Zs l] (gB (fitsH a l)):=by
 refine enx [.tmp 4] Tryz.func48 fun X w0=>?_
 repeat'(first|(refine spl ?_ ?_<;>(intro hb;refine ne ?_))|(refine zl hR ?_;clear hR)|refine s1 ?_|exact True.intro|((with_reducible refine zO ?_);refine frx (ι:=Unit) (l.length) (fun k _=>St.ofA [(0,gI a),(1,Zs l),(5,gI k)] [] []) (fun k _=>YH a none l=YH a (zf2 l k) (l.drop k)) () ?_ (fun k x hJ hk R hR=>?_))|refine cal (zas _) ?_|(have hnk:=hn _ (List.getElem_mem hb);rcases Nat.eq_zero_or_pos k with rfl|hk0;all_goals(first|(obtain⟨j,hj⟩: ∃j,j+1=k:=⟨k - 1,by omega⟩;have hp:zf2 l k=some (l[j]'(by omega)).peer:=(by subst hj;exact JR _);have hjl:j<l.length:=(by omega);have e1:IntKind.i64.wrap ((k:Int) - 1)=j:=(by rw[IntKind.wrap_i64];omega);refine rdb [] ?_)|refine rdb [] ?_))|refine cad (zmS _ _ _ _ _ _ _ hnk) ?_|refine fnx (()) ?_ ?_|(refine s2 ?_;try with_reducible intro R hR)|fail)
 all_goals(refine gz ?_;grind[fitsH,YH,qQ,zgk,JR,zP])
theorem zxy:zep Tryz.prog 105 [some .str,some (.int .i64),some (.int .i64),some (.int .i64)]:=Jn (ks:=[.str,.int .i64,.int .i64,.int .i64]) 3 (by decide) (by kernel_rfl) (by kernel_rfl) (by kernel_rfl)
attribute [push_cast] zxy
def zvV (x y:Ln):Bool:=x.nm==y.nm&&(x.ver==y.ver&&(x.wt==y.wt&&x.fl==y.fl))
def ziK:List Ln→List Ln→Bool
 |[],[]=>true
 |x::l,y::m=>zvV x y&&ziK l m
 | _,_=>false
theorem zr8:ziK [] []=true:=rfl
theorem zdl (x y:Ln) (l m:List Ln):ziK (x::l) (y::m)=(zvV x y&&ziK l m):=rfl
theorem zj5: ∀(l m:List Ln),l.length≠m.length→ziK l m=false
 |[],[],h=>absurd rfl h
 |[],_::_,_=>rfl
 | _::_,[],_=>rfl
 |x::l,y::m,h=>by rw[zdl,zj5 l m (by simpa using h)];simp
theorem zat {a b:Nat} (h:((a:Int) !=(b:Int))=false):a≤b∧b≤a:=by simp at h;omega
theorem zs7 (l m:List Ln) (hl:l.length≤1048576):zu Tryz.prog 163 [gNs l,gNs m] (gB (ziK l m)):=by
 refine enx [.tmp 4] Tryz.func163 fun X w0=>?_
 repeat'(first|(refine spl ?_ ?_<;>(intro hb;refine ne ?_))|(refine zl hR ?_;clear hR)|refine s1 ?_|exact True.intro|(have hlm:=zat hb;((with_reducible refine zW ?_);refine rgx (ι:=Unit) (l.length) (fun k _=>St.ofA [(0,gNs l),(1,gNs m),(12,gI l.length),(13,gI k)] [] []) (fun k _=>ziK l m=ziK (l.drop k) (m.drop k)) () ?_ (fun k x hJ hk=>?_) (fun x hJ=>?_));rotate_left;have hkm:k<m.length:=(by omega))|refine rdb [] ?_|refine rnx (()) ?_|(refine s2 ?_;try with_reducible intro R hR)|fail)
 all_goals(refine gz ?_;grind[zr8,zdl,zj5,zvV,zP])
def zog (x y:Hf):Bool:=x.peer==y.peer&&x.boot==y.boot&&x.life==y.life&&x.pend==y.pend&&x.miss==y.miss&&ziK x.lines y.lines
def zgL:List Hf→List Hf→Bool
 |[],[]=>true
 |x::l,y::m=>zog x y&&zgL l m
 | _,_=>false
theorem zt0:zgL [] []=true:=rfl
theorem zdy (x y:Hf) (l m:List Hf):zgL (x::l) (y::m)=(zog x y&&zgL l m):=rfl
theorem zkC: ∀(l m:List Hf),l.length≠m.length→zgL l m=false
 |[],[],h=>absurd rfl h
 |[],_::_,_=>rfl
 | _::_,[],_=>rfl
 |x::l,y::m,h=>by rw[zdy,zkC l m (by simpa using h)];simp
theorem zxp (p b lf:Int) (l:List Ln) (pe:Bool) (m:Int) (p' b' lf':Int) (l':List Ln) (pe':Bool) (m':Int) (hl:l.length≤1048576):zu Tryz.prog 162 [Yb p b lf l pe m,Yb p' b' lf' l' pe' m'] (gB (zog ⟨p,b,lf,l,pe,m⟩ ⟨p',b',lf',l',pe',m'⟩)):=by
 refine enx [.tmp 4] Tryz.func162 fun X w0=>?_
 repeat'(first|(refine spl ?_ ?_<;>(intro hb;refine ne ?_))|(refine zl hR ?_;clear hR)|refine s1 ?_|exact True.intro|refine cal (zs7 _ _ hl) ?_|(refine s2 ?_;try with_reducible intro R hR)|fail)
 all_goals(refine gz ?_;grind[zog])
theorem zrt (l m:List Hf) (hl:HOk l):zu Tryz.prog 161 [Zs l,Zs m,gF 162] (gB (zgL l m)):=by
 have hl1:=hl.1
 refine enx [.tmp 6] Tryz.func161 fun X w0=>?_
 repeat'(first|(refine spl ?_ ?_<;>(intro hb;refine ne ?_))|(refine zl hR ?_;clear hR)|refine s1 ?_|exact True.intro|(have hlm:=zat hb;((with_reducible refine zW ?_);refine rgx (ι:=Unit) (l.length) (fun k _=>St.ofA [(1,Zs m),(2,gF 162),(15,Zs l),(16,gI l.length),(17,gI k)] [] []) (fun k _=>zgL l m=zgL (l.drop k) (m.drop k)) () ?_ (fun k x hJ hk=>?_) (fun x hJ=>?_));rotate_left;have hkm:k<m.length:=(by omega))|refine cav (zxp _ _ _ _ _ _ _ _ _ _ _ _ (hl.at hk)) ?_|refine rnx (()) ?_|(refine s2 ?_;try with_reducible intro R hR)|fail)
 all_goals(refine gz ?_;grind[zt0,zdy,zkC,zP,zog])
theorem zmy (l m:List Hf) (hl:HOk l):zu Tryz.prog 92 [Zs l,Zs m] (gB (zgL l m)):=by
 refine enx [.tmp 4] Tryz.func92 fun X w0=>?_
 repeat'(first|(refine spl ?_ ?_<;>(intro hb;refine ne ?_))|(refine zl hR ?_;clear hR)|refine s1 ?_|exact True.intro|refine cal (zrt _ _ hl) ?_|(refine s2 ?_;try with_reducible intro R hR)|fail)
 all_goals(refine gz ?_;grind[])
theorem zcG (p b lf:Int) (l:List Ln) (pe:Bool) (m:Int) (p' b' lf':Int) (l':List Ln) (pe':Bool) (m':Int) (hl:l.length≤1048576):zu Tryz.prog 136 [Yb p b lf l pe m,Yb p' b' lf' l' pe' m'] (gB (zog ⟨p,b,lf,l,pe,m⟩ ⟨p',b',lf',l',pe',m'⟩)):=by
 refine enx [.tmp 4] Tryz.func136 fun X w0=>?_
 repeat'(first|(refine spl ?_ ?_<;>(intro hb;refine ne ?_))|(refine zl hR ?_;clear hR)|refine s1 ?_|exact True.intro|(have hlm:=zat hb;((with_reducible refine zO ?_);refine frx (ι:=Unit) (l.length) (fun k _=>St.ofA [(2,.loc 2 0),(3,.loc 3 0),(5,gI k)] [(2,43,cH ⟨p,b,lf,l,pe,m⟩),(3,43,cH ⟨p',b',lf',l',pe',m'⟩)] []) (fun k _=>ziK l l'=ziK (l.drop k) (l'.drop k)) () ?_ (fun k x hJ hk R hR=>?_)))|(have hkm:k<l'.length:=(by omega);refine rdb [] ?_)|refine fnx (()) ?_ ?_|(refine s2 ?_;try with_reducible intro R hR)|fail)
 all_goals(refine gz ?_;grind[zog,zr8,zdl,zj5,zvV,zP])
theorem zk0 (l m:List Hf) (hl:HOk l):zu Tryz.prog 63 [Zs l,Zs m] (gB (zgL l m)):=by
 have hl1:=hl.1
 refine enx [.tmp 4] Tryz.func63 fun X w0=>?_
 repeat'(first|(refine spl ?_ ?_<;>(intro hb;refine ne ?_))|(refine zl hR ?_;clear hR)|refine s1 ?_|exact True.intro|(have hlm:=zat hb;((with_reducible refine zO ?_);refine frx (ι:=Unit) (l.length) (fun k _=>St.ofA [(0,Zs l),(1,Zs m),(5,gI k)] [] []) (fun k _=>zgL l m=zgL (l.drop k) (m.drop k)) () ?_ (fun k x hJ hk R hR=>?_)))|(have hkm:k<m.length:=(by omega);refine rdb [] ?_)|refine cad (zcG _ _ _ _ _ _ _ _ _ _ _ _ (hl.at hb)) ?_|refine fnx (()) ?_ ?_|(refine s2 ?_;try with_reducible intro R hR)|fail)
 all_goals(refine gz ?_;grind[zt0,zdy,zkC,zP,zog])
end Go.Proofs.YtbcbnfiedgnfpaaGreat
