import Derived.Test.YtbcbnfiedgnfpaaGreatZ15
import Derived.Test.YtbcbnfiedgnfpaaGreatZ08
set_option linter.unusedSimpArgs false
set_option linter.unusedVariables false
set_option maxRecDepth 100000
set_option maxHeartbeats 2000000
section
namespace Go.Dl
theorem zve {l:List (List F)} {k:Nat} {r:List F} (h:k<l.length):(l.set k r).getD k []=r:=by simp[List.getD_eq_getElem?_getD,h]
attribute [push_cast] zve List.length_set List.set_set
end Go.Dl
namespace Go.Proofs.YtbcbnfiedgnfpaaGreat
open Go.Dl
set_option maxRecDepth 100000
set_option maxHeartbeats 2000000
attribute [local irreducible] DW yE zY zA zu zky
attribute [local push_cast] zZ qF qC zN zM zD zE qH qE qz Go.Dl.qY yT qy List.mem_cons List.not_mem_nil or_false forall_eq false_implies implies_true
def zom (e:Ex):Bool:=e.has==false&&(e.val==0&&(e.org==0&&e.age==0))
def zhp (x:Tt):Bool:=zom x.mn&&zom x.mx
def fitT1 (x:Tt):Bool:=(x.c.al||(!x.has&&zhp x))&&(x.has||decide (x.inp=0))&&flowB x.inp&&(decide (x.c.kd=4)||zhp x)&&yQ x.mn&&yQ x.mx
def fitsT (a:Int) (l:List Tt):Bool:=decide (0≤a)&&decide (a<16)&&Z5 (recT l)&&l.all fitT1
theorem zdT (x:Int):zu Tryz.prog 118 [gI x] (gB (flowB x)):=by
 refine enx [.tmp 2] Tryz.func118 fun X w0=>?_
 repeat'(first|(refine spl ?_ ?_<;>(intro hb;refine ne ?_))|(refine zl hR ?_;clear hR)|refine s1 ?_|exact True.intro|fail|(refine s2 ?_;try with_reducible intro R hR)|fail)
 all_goals(refine gz ?_;grind[flowB])
theorem zfM (a:Int) (l:List Tt) (hl:l.length≤1048576) (hn: ∀x∈l,x.c.nm.size≤1048576):zu Tryz.prog 49 [gI a,j8 l] (gB (fitsT a l)):=by
 have hl3:(recT l).length≤1048576:=by simpa using hl
 have hn3: ∀c∈recT l,c.nm.size≤1048576:=fun c hc=>by
  obtain⟨x,hx,rfl⟩:=List.mem_map.1 hc
  exact hn x hx
 refine enx [.tmp 4] Tryz.func49 fun X w0=>?_
 repeat'(first|(refine spl ?_ ?_<;>(intro hb;refine ne ?_))|(refine zl hR ?_;clear hR)|refine s1 ?_|exact True.intro|refine cal (QJ _ hl) ?_|refine cal (zk1 _ hl3 hn3) ?_|((with_reducible refine zO ?_);refine frx (ι:=Unit) (l.length) (fun k _=>St.ofA [(1,j8 l),(5,gI k)] [] []) (fun k _=>l.all fitT1=(l.drop k).all fitT1) () ?_ (fun k x hJ hk R hR=>?_))|refine cal (zdT _) ?_|refine cal (zn9 _ _ _ _) ?_|refine fnx (()) ?_ ?_|(refine s2 ?_;try with_reducible intro R hR)|fail)
 (all_goals(repeat(first|clear hR|clear hRA|clear hRn|clear hRr|clear hRe|clear hRL)))
 all_goals try simp only[List.drop_zero,List.drop_length]
 all_goals grind[fitsT,fitT1,zhp,zom,zP]
theorem zpl (a:Int) (l:List Tt) (hl:l.length≤1048576):zu Tryz.prog 85 [gI a,j8 l] (gB (fitsT a l)):=by
 have hl3:(recT l).length≤1048576:=by simpa using hl
 refine enx [.tmp 4] Tryz.func85 fun X w0=>?_
 repeat'(first|(refine spl ?_ ?_<;>(intro hb;refine ne ?_))|(refine zl hR ?_;clear hR)|refine s1 ?_|exact True.intro|refine cal (Yy _ hl) ?_|refine cal (zqH _ hl3) ?_|((with_reducible refine zW ?_);refine rgx (ι:=Unit) (l.length) (fun k _=>St.ofA [(20,j8 l),(21,gI l.length),(22,gI k)] [] []) (fun k _=>l.all fitT1=(l.drop k).all fitT1) () ?_ (fun k x hJ hk=>?_) (fun x hJ=>?_))|refine cal (zaU _) ?_|refine cal (zub _ _ _ _) ?_|refine rnx (()) ?_|(refine s2 ?_;try with_reducible intro R hR)|fail)
 (all_goals(repeat(first|clear hR|clear hRA|clear hRn|clear hRr|clear hRe|clear hRL)))
 all_goals try simp only[List.drop_zero,List.drop_length]
 all_goals grind[fitsT,fitT1,zhp,zom,zP]
end Go.Proofs.YtbcbnfiedgnfpaaGreat
end
namespace Go.Proofs.YtbcbnfiedgnfpaaGreat
open Go.Dl
attribute [local irreducible] DW yE zY zA zu zky
attribute [local push_cast] zZ qF qC zN zM zD zE qH qE qz Go.Dl.qY yT qy List.mem_cons List.not_mem_nil or_false forall_eq false_implies implies_true
def zrf (id:Int) (x:Tt):Tt:=⟨x.c,x.has,x.inp,(zbZ id x.has x.inp x.mn x.mx).1,(zbZ id x.has x.inp x.mn x.mx).2⟩
attribute [simp] zrf
def isX (x:Tt):Bool:=x.c.al&&decide (x.c.kd=4)
def Za (id:Int) (x:Tt):Tt:=if isX x then zrf id x else x
def zcE (id:Int) (l:List Tt) (k:Nat):List Tt:=(l.take k).map (Za id)++l.drop k
theorem zsp (id:Int) (l:List Tt) (k:Nat) (h:k≤l.length):(zcE id l k).length=l.length:=by simp[zcE];omega
theorem zpR (id:Int) (l:List Tt) (k:Nat) (h:k<l.length): ∃hk:k<(zcE id l k).length,(zcE id l k)[k]=l[k]:=by
 refine⟨by rw[zsp _ _ _ (by omega)];exact h,?_⟩
 unfold zcE
 rw[List.getElem_append_right (by simp;omega)]
 simp[Nat.min_eq_left (by omega:k≤l.length)]
theorem za4 (id:Int) (l:List Tt) (k:Nat) (h:k<l.length):zcE id l (k+1)=(zcE id l k).set k (Za id l[k]):=by
 unfold zcE
 have hl:((l.take k).map (Za id)).length=k:=by simp;omega
 have e:l.drop k=l[k]::l.drop (k+1):=zP h
 rw[List.set_append_right _ _ (by omega),hl,Nat.sub_self,e,List.set_cons_zero,qJ h,List.map_append,List.append_assoc]
 rfl
def FXT (x:Tt):Prop:=FX x.mn∧FX x.mx∧I62 x.inp
theorem YF (l:List Tt) (id:Int) (hl:l.length≤1048576):zu Tryz.prog 247 [j8 l,gI id] (j8 (l.map (Za id))):=by
 refine enx [.tmp 4] Tryz.func247 fun X w0=>?_
 repeat'(first|(refine spl ?_ ?_<;>(intro hb;refine ne ?_))|(refine zl hR ?_;clear hR)|refine s1 ?_|exact True.intro|refine cM [] [(0,10)] (jd l hl) ?_|((with_reducible refine zO ?_);refine frx (ι:=List Tt×Nat) (l.length) (fun k x=>St.ofA [(1,gI id),(5,.c (.o 90)),(6,gI k)] [] [(90,x.2,101,16,x.1.map QO)]) (fun k x=>zcE id l k=x.1∧x.1.length=l.length) (l,10) ?_ (fun k x hJ hk R hR=>?_))|(have hkl:k<l.length:=hb;obtain⟨hJ1,hJ2⟩:=hJ;obtain⟨hkx,hx⟩:=zpR id l k hkl;rw[hJ1]at hkx;simp only[hJ1]at hx)|refine rdb [7,8] ?_|refine rex [7,8] ?_|refine lat ?_|refine cad (zkX id _ l[k].inp l[k].mn.has l[k].mn.val l[k].mn.org l[k].mn.age l[k].mx.has l[k].mx.val l[k].mx.org l[k].mx.age) ?_|refine fnx ((x.1.set k (zrf id l[k]),90)) ?_ ?_|refine fnx ((x.1,90)) ?_ ?_|(refine s2 ?_;try with_reducible intro R hR)|fail)
 (all_goals(repeat(first|clear hR|clear hRA|clear hRn|clear hRr|clear hRe|clear hRL)))
 all_goals first
  |exact hkl
  |(exact⟨rfl,rfl⟩)
  |(refine⟨?_,by simp[hJ2]⟩;rw[za4 id l k hkl,hJ1];have e:Za id l[k]=zrf id l[k]:=(by simp_all[Za,isX]);rw[e];done)
  |(refine⟨?_,by simp[hJ2]⟩;rw[za4 id l k hkl,hJ1];have e:Za id l[k]=l[k]:=(by simp_all[Za,isX]);rw[e,←hx];simp;done)
  |(have ek:k=l.length:=(by omega);subst ek;have e:x.1=l.map (Za id):=(by rw[←hJ.1];simp[zcE]);rw[e];done)
  |(simp[zcE];done)
def y0 (x y:Int):Int×Int:=if flowB x&&flowB y&&flowB (wr (x*y))then(wr (x*y),0)else(0,10)
theorem zns (x y:Int):zu Tryz.prog 308 [gI x,gI y] (rII (y0 x y)):=by
 refine enx [.tmp 4,.tmp 5] Tryz.func308 fun X w0=>?_
 repeat'(first|(refine spl ?_ ?_<;>(intro hb;refine ne ?_))|(refine zl hR ?_;clear hR)|refine s1 ?_|exact True.intro|refine cal (zdT _) ?_|(refine s2 ?_;try with_reducible intro R hR)|fail)
 all_goals(refine gz ?_;grind[y0])
def qV (k x s:Int):Int×Int:=
 if k=1 then y0 x s else if k=2 then(if¬x=0∧¬x=1 then(0,49)else y0 x s)else if k=3 then(if(y0 x x).2=0 then y0 (y0 x x).1 s else(0,(y0 x x).2))else y0 x 1
theorem zdw (k x s:Int):zu Tryz.prog 245 [gI k,gI x,gI s] (rII (qV k x s)):=by
 refine enx [.tmp 6,.tmp 7] Tryz.func245 fun X w0=>?_
 repeat'(first|(refine spl ?_ ?_<;>(intro hb;refine ne ?_))|(refine zl hR ?_;clear hR)|refine s1 ?_|exact True.intro|refine cal (zns _ _) ?_|(refine s2 ?_;try with_reducible intro R hR)|fail)
 all_goals(refine gz ?_;grind[qV])
theorem zb8 (l:List Tt) (id:Int) (hl:l.length≤1048576) (hF: ∀x∈l,FXT x):zu Tryz.prog 185 [j8 l,gI id] (j8 (l.map (Za id))):=by
 replace hF:=Lib.hid hF
 refine enx [.tmp 4] Tryz.func185 fun X w0=>?_
 repeat'(first|(refine spl ?_ ?_<;>(intro hb;refine ne ?_))|(refine zl hR ?_;clear hR)|refine s1 ?_|exact True.intro|refine cM [] [(0,9)] (Qt l hl) ?_|(((with_reducible refine zW ?_);refine rgx (ι:=List Tt×Nat) (l.length) (fun k x=>St.ofA [(1,gI id),(5,.c (.o 90)),(10,.c (.o 90)),(12,gI k),(11,gI l.length)] [] [(90,x.2,101,16,x.1.map QO)]) (fun k x=>zcE id l k=x.1∧x.1.length=l.length) (l,9) ?_ (fun k x hJ hk=>?_) (fun x hJ=>?_));rotate_left;have hkl:k<l.length:=hk;obtain⟨hJ1,hJ2⟩:=hJ;obtain⟨hkx,hx⟩:=zpR id l k hkl;rw[hJ1]at hkx;simp only[hJ1]at hx)|(obtain⟨g1,g2,g3⟩:FXT l[k]:=(hF: ∀x∈l,FXT x) _ (List.getElem_mem hkl);refine cal (zqy id _ l[k].inp l[k].mn l[k].mx g1 g2 g3) ?_)|refine rnx ((x.1.set k (zrf id l[k]),90)) ?_|refine rnx ((x.1,90)) ?_|(refine s2 ?_;try with_reducible intro R hR)|fail)
 (all_goals(repeat(first|clear hR|clear hRA|clear hRn|clear hRr|clear hRe|clear hRL)))
 all_goals first
  |exact hkl
  |(exact⟨rfl,rfl⟩)
  |(refine⟨?_,by simp[hJ2]⟩;rw[za4 id l k hkl,hJ1];have e:Za id l[k]=zrf id l[k]:=(by simp_all[Za,isX]);rw[e];done)
  |(refine⟨?_,by simp[hJ2]⟩;rw[za4 id l k hkl,hJ1];have e:Za id l[k]=l[k]:=(by simp_all[Za,isX]);rw[e,←hx];simp;done)
  |(have e:x.1=l.map (Za id):=(by rw[←hJ.1];simp[zcE]);rw[e];done)
  |(simp[zcE];done)
def zcB (n:ByteArray) (f:Tt→Tt):List Tt→List Tt
 |[]=>[]
 |x::l=>if Jr n x then f x::l else x::zcB n f l
theorem zuc {n:ByteArray} (f:Tt→Tt): ∀ {l:List Tt},J3 n l= -1→zcB n f l=l
 |[],_=>rfl
 | x::l,h=>by
  rw[Y5]at h
  rw[zcB]
  by_cases hx:Jr n x
  ·simp[hx]at h
  ·simp[hx]at h
   have:=zdj n l
   have e:J3 n l= -1:=(by by_cases h0:J3 n l<0<;>omega)
   rw[if_neg (by simpa using hx),zuc f e]
theorem zfE {n:ByteArray} (f:Tt→Tt): ∀ {l:List Tt} {k:Nat} (hk:k<l.length),J3 n l=k→zcB n f l=l.set k (f l[k])
 |[],k,hk,_=>by cases hk
 | x::l,k,hk,h=>by
  rw[Y5]at h
  rw[zcB]
  by_cases hx:Jr n x
  ·simp[hx]at h
   have:k=0:=by omega
   subst this
   simp[hx]
  ·simp[hx]at h
   have:=zdj n l
   by_cases h0:J3 n l<0
   ·simp[h0]at h
   ·simp[h0]at h
    obtain⟨j,rfl⟩: ∃j,k=j+1:=⟨k - 1,by omega⟩
    have e:J3 n l=j:=(by omega)
    rw[if_neg (by simpa using hx),zfE f (l:=l) (k:=j) (by simpa using hk) e]
    simp
def zqF (id:Int) (c d:Ex) (x:Tt):Tt:=if x.c.kd=4 then⟨x.c,x.has,x.inp,(zeb id x.mn x.mx c d).1,(zeb id x.mn x.mx c d).2⟩else x
def zew (id:Int) (n:ByteArray) (c d:Ex) (l:List Tt):List Tt:=zcB n (zqF id c d) l
theorem zsW {id:Int} {n:ByteArray} {c d:Ex} {l:List Tt} {k:Nat} (hk:k<l.length) (h:J3 n l=k) (hd:l[k].c.kd=4):zew id n c d l=l.set k ⟨l[k].c,l[k].has,l[k].inp,(zeb id l[k].mn l[k].mx c d).1,(zeb id l[k].mn l[k].mx c d).2⟩:=by
 rw[zew,zfE _ hk h,zqF,if_pos hd]
theorem zul {id:Int} {n:ByteArray} {c d:Ex} {l:List Tt} {k:Nat} (hk:k<l.length) (h:J3 n l=k) (hd: ¬l[k].c.kd=4):zew id n c d l=l:=by
 rw[zew,zfE _ hk h,zqF,if_neg hd];simp
theorem zsq {id:Int} {n:ByteArray} {c d:Ex} {l:List Tt} (h:J3 n l= -1):zew id n c d l=l:=zuc _ h
theorem zsb (l:List Tt) (id:Int) (n:ByteArray) (c d:Ex) (hl:l.length≤1048576) (hF: ∀x∈l,FXT x) (hc:FX c) (hd:FX d):zu Tryz.prog 276 [j8 l,gI id,gS n,gX c,gX d] (j8 (zew id n c d l)):=by
 rcases jG n l with⟨h1,-⟩|⟨k,hk,h1,-⟩
 ·rw[zsq h1]
  clear hF hc hd
  refine enx [.tmp 10] Tryz.func276 fun X w0=>?_
  repeat'(first|(refine spl ?_ ?_<;>(intro hb;refine ne ?_))|(refine zl hR ?_;clear hR)|refine s1 ?_|exact True.intro|(exact False.elim hb)|(exact absurd True.intro hb)|(have hz:=h4 (of_decide_eq_true hb);exact hz.elim)|refine cM [] [(0,15)] (Qt l hl) ?_|(refine yz rfl rfl (zdC hl h1) (by rfl) (by simp;done) ?_;simp only[push_cast,seval, *])|(refine s2 ?_;try with_reducible intro R hR)|fail)
  (all_goals(repeat(first|clear hR|clear hRA|clear hRn|clear hRr|clear hRe|clear hRL)));all_goals(simp[List.map_set, *];done)
 ·obtain⟨g1,g2,g3⟩:=hF _ (List.getElem_mem hk)
  have gc:=Lib.hid hc
  have gd:=Lib.hid hd
  replace g1:=Lib.hid g1
  replace g2:=Lib.hid g2
  clear hF hc hd g3
  by_cases h4:l[k].c.kd=4
  ·rw[zsW hk h1 h4]
   refine enx [.tmp 10] Tryz.func276 fun X w0=>?_
   repeat'(first|(refine spl ?_ ?_<;>(intro hb;refine ne ?_))|(refine zl hR ?_;clear hR)|refine s1 ?_|exact True.intro|(exact False.elim hb)|(exact absurd True.intro hb)|(have hz:=h4 (of_decide_eq_true hb);exact hz.elim)|refine cM [] [(0,15)] (Qt l hl) ?_|(refine yz rfl rfl (QW hl h1) (by rfl) (by simp;done) ?_;simp only[push_cast,seval, *])|refine rtf 21 [2,3,20] [] ?_|refine lat ?_|refine cad (zq9 id l[k].mn l[k].mx c d g1 g2 gc gd) ?_|(refine s2 ?_;try with_reducible intro R hR)|fail)
   (all_goals(repeat(first|clear hR|clear hRA|clear hRn|clear hRr|clear hRe|clear hRL)));all_goals(simp[List.map_set, *];done)
  ·rw[zul hk h1 h4]
   refine enx [.tmp 10] Tryz.func276 fun X w0=>?_
   repeat'(first|(refine spl ?_ ?_<;>(intro hb;refine ne ?_))|(refine zl hR ?_;clear hR)|refine s1 ?_|exact True.intro|(exact False.elim hb)|(exact absurd True.intro hb)|(have hz:=h4 (of_decide_eq_true hb);exact hz.elim)|refine cM [] [(0,15)] (Qt l hl) ?_|(refine yz rfl rfl (QW hl h1) (by rfl) (by simp;done) ?_;simp only[push_cast,seval, *])|refine rdb [] ?_|(refine s2 ?_;try with_reducible intro R hR)|fail)
   (all_goals(repeat(first|clear hR|clear hRA|clear hRn|clear hRr|clear hRe|clear hRL)));all_goals(simp[List.map_set, *];done)
theorem zkL (l:List Tt) (id:Int) (n:ByteArray) (c d:Ex) (hl:l.length≤1048576):zu Tryz.prog 348 [j8 l,gI id,gS n,gX c,gX d] (j8 (zew id n c d l)):=by
 rcases jG n l with⟨h1,-⟩|⟨k,hk,h1,-⟩
 ·rw[zsq h1]
  refine enx [.tmp 10] Tryz.func348 fun X w0=>?_
  repeat'(first|(refine spl ?_ ?_<;>(intro hb;refine ne ?_))|(refine zl hR ?_;clear hR)|refine s1 ?_|exact True.intro|(exact False.elim hb)|(exact absurd True.intro hb)|(have hz:=h4 (of_decide_eq_true hb);exact hz.elim)|refine cM [] [(0,16)] (jd l hl) ?_|refine cal (zbM hl h1) ?_|refine rdb [] ?_|(refine s2 ?_;try with_reducible intro R hR)|fail)
  (all_goals(repeat(first|clear hR|clear hRA|clear hRn|clear hRr|clear hRe|clear hRL)));all_goals(simp[List.map_set, *];done)
 ·by_cases h4:l[k].c.kd=4
  ·rw[zsW hk h1 h4]
   refine enx [.tmp 10] Tryz.func348 fun X w0=>?_
   repeat'(first|(refine spl ?_ ?_<;>(intro hb;refine ne ?_))|(refine zl hR ?_;clear hR)|refine s1 ?_|exact True.intro|(exact False.elim hb)|(exact absurd True.intro hb)|(have hz:=h4 (of_decide_eq_true hb);exact hz.elim)|refine cM [] [(0,16)] (jd l hl) ?_|refine cal (Z9 hl h1) ?_|refine rdb [] ?_|refine rdb [13,14] ?_|refine rex [13,14] ?_|refine cad (zrg id l[k].mn.has l[k].mn.val l[k].mn.org l[k].mn.age l[k].mx.has l[k].mx.val l[k].mx.org l[k].mx.age c.has c.val c.org c.age d.has d.val d.org d.age) ?_|(refine s2 ?_;try with_reducible intro R hR)|fail)
   (all_goals(repeat(first|clear hR|clear hRA|clear hRn|clear hRr|clear hRe|clear hRL)));all_goals(simp[List.map_set, *];done)
  ·rw[zul hk h1 h4]
   refine enx [.tmp 10] Tryz.func348 fun X w0=>?_
   repeat'(first|(refine spl ?_ ?_<;>(intro hb;refine ne ?_))|(refine zl hR ?_;clear hR)|refine s1 ?_|exact True.intro|(exact False.elim hb)|(exact absurd True.intro hb)|(have hz:=h4 (of_decide_eq_true hb);exact hz.elim)|refine cM [] [(0,16)] (jd l hl) ?_|refine cal (Z9 hl h1) ?_|refine rdb [] ?_|(refine s2 ?_;try with_reducible intro R hR)|fail)
   (all_goals(repeat(first|clear hR|clear hRA|clear hRn|clear hRr|clear hRe|clear hRL)));all_goals(simp[List.map_set, *];done)
def zrd (id v:Int) (x:Tt):Tt:=if x.c.kd=4 then⟨x.c,true,v,(zlW id v x.mn x.mx).1,(zlW id v x.mn x.mx).2⟩else⟨x.c,true,v,x.mn,x.mx⟩
def QF (id:Int) (n:ByteArray) (v:Int) (l:List Tt):List Tt×Int:=
 if J3 n l<0 then(l,44)else
 if(qV (findT n l).1.c.kd v (findT n l).1.c.sc).2=0 then(zcB n (zrd id (qV (findT n l).1.c.kd v (findT n l).1.c.sc).1) l,0)else(l,(qV (findT n l).1.c.kd v (findT n l).1.c.sc).2)
theorem ztt {id:Int} {n:ByteArray} {v:Int} {l:List Tt} (h:J3 n l= -1):QF id n v l=(l,44):=by simp[QF,h]
theorem zte {id:Int} {n:ByteArray} {v:Int} {l:List Tt} {k:Nat} (hk:k<l.length) (h:J3 n l=k) (hf:findT n l=(l[k],true)) (he: ¬(qV l[k].c.kd v l[k].c.sc).2=0):QF id n v l=(l,(qV l[k].c.kd v l[k].c.sc).2):=by
 rw[QF,h,if_neg (by omega),hf];simp[he]
theorem zry {id:Int} {n:ByteArray} {v:Int} {l:List Tt} {k:Nat} (hk:k<l.length) (h:J3 n l=k) (hf:findT n l=(l[k],true)) (he:(qV l[k].c.kd v l[k].c.sc).2=0) (hd:l[k].c.kd=4):
  QF id n v l=(l.set k ⟨l[k].c,true,(qV 4 v l[k].c.sc).1,(zlW id (qV 4 v l[k].c.sc).1 l[k].mn l[k].mx).1,(zlW id (qV 4 v l[k].c.sc).1 l[k].mn l[k].mx).2⟩,0):=by
 rw[QF,h,if_neg (by omega),hf,if_pos he,zfE _ hk h,zrd,if_pos hd,hd]
theorem zt5 {id:Int} {n:ByteArray} {v:Int} {l:List Tt} {k:Nat} (hk:k<l.length) (h:J3 n l=k) (hf:findT n l=(l[k],true)) (he:(qV l[k].c.kd v l[k].c.sc).2=0) (hd: ¬l[k].c.kd=4):
  QF id n v l=(l.set k ⟨l[k].c,true,(qV l[k].c.kd v l[k].c.sc).1,l[k].mn,l[k].mx⟩,0):=by
 rw[QF,h,if_neg (by omega),hf,if_pos he,zfE _ hk h,zrd,if_neg hd]
theorem znj (l:List Tt) (id:Int) (n:ByteArray) (v:Int) (hl:l.length≤1048576):zu Tryz.prog 177 [j8 l,gI id,gS n,gI v] (zgF (QF id n v l)):=by
 rcases jG n l with⟨h1,-⟩|⟨k,hk,h1,h2⟩
 ·rw[ztt h1]
  refine enx [.tmp 8,.tmp 9] Tryz.func177 fun X w0=>?_
  repeat'(first|(refine spl ?_ ?_<;>(intro hb;refine ne ?_))|(refine zl hR ?_;clear hR)|refine s1 ?_|exact True.intro|(exact False.elim hb)|(exact absurd True.intro hb)|(have hz:(k:Int)<0:=hb;exfalso;omega)|refine cM [] [(0,22)] (jd l hl) ?_|refine cal (zbM hl h1) ?_|(refine s2 ?_;try with_reducible intro R hR)|fail)
  (all_goals(repeat(first|clear hR|clear hRA|clear hRn|clear hRr|clear hRe|clear hRL)));all_goals(simp[List.map_set, *];done)
 ·by_cases he:(qV l[k].c.kd v l[k].c.sc).2=0
  ·by_cases h4:l[k].c.kd=4
   ·rw[zry hk h1 h2 he h4]
    rw[h4]at he
    clear h2
    refine enx [.tmp 8,.tmp 9] Tryz.func177 fun X w0=>?_
    repeat'(first|(refine spl ?_ ?_<;>(intro hb;refine ne ?_))|(refine zl hR ?_;clear hR)|refine s1 ?_|exact True.intro|(exact False.elim hb)|(exact absurd True.intro hb)|(have hz:(k:Int)<0:=hb;exfalso;omega)|(have hz:=h4 (of_decide_eq_true hb);exact hz.elim)|refine cM [] [(0,46)] (jd l hl) ?_|refine cal (Z9 hl h1) ?_|refine cad (zdw 4 v l[k].c.sc) ?_|refine rdb [] ?_|refine rdb [14,15] ?_|refine rex [14,15] ?_|refine cad (zny id (qV 4 v l[k].c.sc).1 l[k].mn.has l[k].mn.val l[k].mn.org l[k].mn.age l[k].mx.has l[k].mx.val l[k].mx.org l[k].mx.age) ?_|(refine s2 ?_;try with_reducible intro R hR)|fail)
    (all_goals(repeat(first|clear hR|clear hRA|clear hRn|clear hRr|clear hRe|clear hRL)));all_goals(simp[List.map_set, *];done)
   ·rw[zt5 hk h1 h2 he h4]
    clear h2
    refine enx [.tmp 8,.tmp 9] Tryz.func177 fun X w0=>?_
    repeat'(first|(refine spl ?_ ?_<;>(intro hb;refine ne ?_))|(refine zl hR ?_;clear hR)|refine s1 ?_|exact True.intro|(exact False.elim hb)|(exact absurd True.intro hb)|(have hz:(k:Int)<0:=hb;exfalso;omega)|(have hz:=h4 (of_decide_eq_true hb);exact hz.elim)|refine cM [] [(0,46)] (jd l hl) ?_|refine cal (Z9 hl h1) ?_|refine cad (zdw l[k].c.kd v l[k].c.sc) ?_|refine rdb [] ?_|(refine s2 ?_;try with_reducible intro R hR)|fail)
    (all_goals(repeat(first|clear hR|clear hRA|clear hRn|clear hRr|clear hRe|clear hRL)));all_goals(simp[List.map_set, *];done)
  ·rw[zte hk h1 h2 he]
   clear h2
   refine enx [.tmp 8,.tmp 9] Tryz.func177 fun X w0=>?_
   repeat'(first|(refine spl ?_ ?_<;>(intro hb;refine ne ?_))|(refine zl hR ?_;clear hR)|refine s1 ?_|exact True.intro|(exact False.elim hb)|(exact absurd True.intro hb)|(have hz:(k:Int)<0:=hb;exfalso;omega)|(exfalso;simp at hb;exact he hb)|refine cM [] [(0,43)] (jd l hl) ?_|refine cal (Z9 hl h1) ?_|refine cad (zdw l[k].c.kd v l[k].c.sc) ?_|refine rdb [] ?_|(refine s2 ?_;try with_reducible intro R hR)|fail)
   (all_goals(repeat(first|clear hR|clear hRA|clear hRn|clear hRr|clear hRe|clear hRL)));all_goals(simp[List.map_set, *];done)
def zrZ:Prop:=∀k x s:Int,1≤k∧k≤4→zu Tryz.prog 148 [gI k,gI x,gI s] (rII (qV k x s))
theorem zrN (ht:zrZ) (l:List Tt) (id:Int) (n:ByteArray) (v:Int) (hl:l.length≤1048576) (hK: ∀x∈l,1≤x.c.kd∧x.c.kd≤4) (hF: ∀x∈l,FXT x) (hv: ∀x∈l,(qV x.c.kd v x.c.sc).2=0→I62 (qV x.c.kd v x.c.sc).1):zu Tryz.prog 73 [j8 l,gI id,gS n,gI v] (zgF (QF id n v l)):=by
 rcases jG n l with⟨h1,-⟩|⟨k,hk,h1,h2⟩
 ·rw[ztt h1]
  clear hF hv hK ht
  refine enx [.tmp 8,.tmp 9] Tryz.func73 fun X w0=>?_
  repeat'(first|(refine spl ?_ ?_<;>(intro hb;refine ne ?_))|(refine zl hR ?_;clear hR)|refine s1 ?_|exact True.intro|(exact False.elim hb)|(exact absurd True.intro hb)|refine cM [] [(0,17)] (Qt l hl) ?_|(refine yz rfl rfl (zdC hl h1) (by rfl) (by simp;done) ?_;simp only[push_cast,seval, *])|(refine s2 ?_;try with_reducible intro R hR)|fail)
  (all_goals(repeat(first|clear hR|clear hRA|clear hRn|clear hRr|clear hRe|clear hRL)));all_goals(simp[List.map_set, *];done)
 ·obtain⟨g1,g2,-⟩:=hF _ (List.getElem_mem hk)
  have gv:=hv _ (List.getElem_mem hk)
  have gt:=Lib.hid (ht l[k].c.kd v l[k].c.sc (hK _ (List.getElem_mem hk)))
  replace g1:=Lib.hid g1
  replace g2:=Lib.hid g2
  clear hF hv hK ht
  by_cases he:(qV l[k].c.kd v l[k].c.sc).2=0
  ·replace gv:=Lib.hid (gv he)
   by_cases h4:l[k].c.kd=4
   ·rw[zry hk h1 h2 he h4]
    rw[h4]at he gv gt
    clear h2
    refine enx [.tmp 8,.tmp 9] Tryz.func73 fun X w0=>?_
    repeat'(first|(refine spl ?_ ?_<;>(intro hb;refine ne ?_))|(refine zl hR ?_;clear hR)|refine s1 ?_|exact True.intro|(exact False.elim hb)|(exact absurd True.intro hb)|(have hz:=h4 (of_decide_eq_true hb);exact hz.elim)|refine cM [] [(0,17)] (Qt l hl) ?_|(refine yz rfl rfl (QW hl h1) (by rfl) (by simp;done) ?_;simp only[push_cast,seval, *])|refine cal (gt) ?_|refine rtf 20 [2,3,19] [] ?_|refine lat ?_|refine cad (zr4 id (qV 4 v l[k].c.sc).1 l[k].mn l[k].mx g1 g2 gv) ?_|(refine s2 ?_;try with_reducible intro R hR)|fail)
    (all_goals(repeat(first|clear hR|clear hRA|clear hRn|clear hRr|clear hRe|clear hRL)));all_goals(simp[List.map_set, *];done)
   ·rw[zt5 hk h1 h2 he h4]
    clear h2
    refine enx [.tmp 8,.tmp 9] Tryz.func73 fun X w0=>?_
    repeat'(first|(refine spl ?_ ?_<;>(intro hb;refine ne ?_))|(refine zl hR ?_;clear hR)|refine s1 ?_|exact True.intro|(exact False.elim hb)|(exact absurd True.intro hb)|(have hz:=h4 (of_decide_eq_true hb);exact hz.elim)|refine cM [] [(0,17)] (Qt l hl) ?_|(refine yz rfl rfl (QW hl h1) (by rfl) (by simp;done) ?_;simp only[push_cast,seval, *])|refine cal (gt) ?_|(refine s2 ?_;try with_reducible intro R hR)|fail)
    (all_goals(repeat(first|clear hR|clear hRA|clear hRn|clear hRr|clear hRe|clear hRL)));all_goals(simp[List.map_set, *];done)
  ·rw[zte hk h1 h2 he]
   clear h2 gv
   refine enx [.tmp 8,.tmp 9] Tryz.func73 fun X w0=>?_
   repeat'(first|(refine spl ?_ ?_<;>(intro hb;refine ne ?_))|(refine zl hR ?_;clear hR)|refine s1 ?_|exact True.intro|(exact False.elim hb)|(exact absurd True.intro hb)|(exfalso;simp at hb;exact he hb)|refine cM [] [(0,17)] (Qt l hl) ?_|(refine yz rfl rfl (QW hl h1) (by rfl) (by simp;done) ?_;simp only[push_cast,seval, *])|refine cal (gt) ?_|(refine s2 ?_;try with_reducible intro R hR)|fail)
   (all_goals(repeat(first|clear hR|clear hRA|clear hRn|clear hRr|clear hRe|clear hRL)));all_goals(simp[List.map_set, *];done)
end Go.Proofs.YtbcbnfiedgnfpaaGreat
