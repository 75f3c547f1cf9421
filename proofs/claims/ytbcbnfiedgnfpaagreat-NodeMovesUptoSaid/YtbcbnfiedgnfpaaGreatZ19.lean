import Derived.Test.YtbcbnfiedgnfpaaGreatZ13
import Derived.Test.YtbcbnfiedgnfpaaGreatZ18
import Derived.Test.YtbcbnfiedgnfpaaGreatZ08
set_option linter.unusedSimpArgs false
set_option linter.unusedVariables false
set_option maxRecDepth 100000
set_option maxHeartbeats 2000000
namespace Go.Proofs.YtbcbnfiedgnfpaaGreat
open Go.Dl
attribute [local irreducible] DW yE zY zA zu zky
attribute [local push_cast] zZ qF qC zN zM zD zE qH qE qz Go.Dl.qY yT qy List.mem_cons List.not_mem_nil or_false forall_eq false_implies implies_true
theorem zoV (a:Int) (l:List Sn) (hl:l.length≤1048576):zu Tryz.prog 83 [gI a,QN l] (gB (fitsS a l)):=by
 refine enx [.tmp 4] Tryz.func83 fun X w0=>?_
 repeat'(first|(refine spl ?_ ?_<;>(intro hb;refine ne ?_))|(refine zl hR ?_;clear hR)|refine s1 ?_|exact True.intro|(((with_reducible refine zW ?_);refine rgx (ι:=Unit) (l.length) (fun k _=>St.ofA [(0,gI a),(1,QN l),(7,QN l),(8,gI l.length),(9,gI k)] [] []) (fun k _=>JW a none l=JW a (zfj l k) (l.drop k)) () ?_ (fun k x hJ hk=>?_) (fun x hJ=>?_));rotate_left;rcases Nat.eq_zero_or_pos k with rfl|hk0;rotate_left;obtain⟨j,hj⟩: ∃j,j+1=k:=⟨k - 1,by omega⟩;have hp:zfj l k=some (l[j]'(by omega)).id:=(by subst hj;exact Jw _);have hjl:j<l.length:=(by omega);have e1:IntKind.i64.wrap ((k:Int) - 1)=j:=(by rw[IntKind.wrap_i64];omega))|refine rdb [] ?_|refine rnx (()) ?_|(refine s2 ?_;try with_reducible intro R hR)|fail)
 all_goals(refine gz ?_;grind[fitsS,JW,okS,zfX,Jw,zP,nodeB])
theorem Y9 (l:List Sn) (p:Int) (b:Bool) (hs:SrtS l) (hb:isS p l=b) (hl:l.length≤1048576):zu Tryz.prog 158 [QN l,gI p] (rFS (Jl p l,getS l p,b)):=by
 have h:=zud l p hl
 rw[zjX hs,hb]at h
 simpa using h
theorem zeD (l:List Sn) (p:Int) (hs:SrtS l) (hl:l.length≤1048576):zu Tryz.prog 86 [QN l,gI p] (gS1 (getS l p)):=by
 refine enx [.cell 4 94] Tryz.func86 fun X w0=>?_
 repeat'(first|(refine spl ?_ ?_<;>(intro hb;refine ne ?_))|(refine zl hR ?_;clear hR)|refine s1 ?_|exact True.intro|refine cal (Y9 _ _ _ hs rfl hl) ?_|refine cal (Y4 _ _ _ _) ?_|(refine s2 ?_;try with_reducible intro R hR)|fail)
theorem za5 (l:List Sn) (boot k f t b lf e el:Int) (its:List (List F)) (hs:SrtS l) (hl:l.length≤1048576):zu Tryz.prog 131 [QN l,gI boot,gP k f t b lf e el its] (gI (j9 (getS l f) boot k b lf e el)):=by
 refine enx [.tmp 6] Tryz.func131 fun X w0=>?_
 repeat'(first|(refine spl ?_ ?_<;>(intro hb;refine ne ?_))|(refine zl hR ?_;clear hR)|refine s1 ?_|exact True.intro|refine cal (Y9 _ _ _ hs rfl hl) ?_|refine cal (zcZ _ _ _ _) ?_|(refine s2 ?_;try with_reducible intro R hR)|fail)
 all_goals(refine gz ?_;grind[j9])
theorem zhk (id b:Int) (l:List Sn) (p:Int) (hs:SrtS l) (hl:l.length≤1048576):zu Tryz.prog 190 [gI id,gI b,QN l,gI p] (gP 1 id p b (getS l p).tm 0 0 []):=by
 refine enx [.cell 8 30] Tryz.func190 fun X w0=>?_
 repeat'(first|(refine spl ?_ ?_<;>(intro hb;refine ne ?_))|(refine zl hR ?_;clear hR)|refine s1 ?_|exact True.intro|refine cal (zeD _ _ hs hl) ?_|(refine s2 ?_;try with_reducible intro R hR)|fail)
theorem zmi (id bo:Int) (l:List Sn) (k f t b lf e el:Int) (its:List (List F)) (hs:SrtS l) (hl:l.length≤1048576):zu Tryz.prog 133 [gI id,gI bo,QN l,gP k f t b lf e el its] (gP 2 id f bo (getS l f).tm b lf []):=by
 refine enx [.cell 8 30] Tryz.func133 fun X w0=>?_
 repeat'(first|(refine spl ?_ ?_<;>(intro hb;refine ne ?_))|(refine zl hR ?_;clear hR)|refine s1 ?_|exact True.intro|refine rdb [] ?_|refine cad (zeD _ _ hs hl) ?_|(refine s2 ?_;try with_reducible intro R hR)|fail)
theorem zgj (l:List Hf) (k f t b lf e el:Int) (its:List (List F)) (hl:HOk l):zu Tryz.prog 270 [Zs l,gP k f t b lf e el its] (gB (Z4 (zlR l f) b lf)):=by
 refine enx [.tmp 4] Tryz.func270 fun X w0=>?_
 repeat'(first|(refine spl ?_ ?_<;>(intro hb;refine ne ?_))|(refine zl hR ?_;clear hR)|refine s1 ?_|exact True.intro|refine cal (zby _ _ hl) ?_|refine cal (zhA _ _ _ _) ?_|(refine s2 ?_;try with_reducible intro R hR)|fail)
 all_goals(refine gz ?_;grind[Z4])
theorem zhN (l:List Hf) (k f t b lf e el:Int) (its:List (List F)) (hl:HOk l):zu Tryz.prog 269 [Zs l,gP k f t b lf e el its] (gB (ziy (zlR l f) b lf)):=by
 refine enx [.tmp 4] Tryz.func269 fun X w0=>?_
 repeat'(first|(refine spl ?_ ?_<;>(intro hb;refine ne ?_))|(refine zl hR ?_;clear hR)|refine s1 ?_|exact True.intro|refine cal (zby _ _ hl) ?_|(refine s2 ?_;try with_reducible intro R hR)|fail)
 all_goals(refine gz ?_;grind[ziy])
theorem ztb:zep Tryz.prog 184 [some (.int .i64),some (.int .i64),some (.int .i64),some (.int .i64)]:=Jn (ks:=[.int .i64,.int .i64,.int .i64,.int .i64]) 3 (by decide) (by kernel_rfl) (by kernel_rfl) (by kernel_rfl)
attribute [push_cast] ztb
theorem zb0 (l:List Sn) (hl:l.length≤1048576):zA Tryz.prog 123 [QN l] [] [] (.c (.o 0)) [] [(0,94,4,l.map QD)]:=by
 refine emx [.tmp 2] Tryz.func123 fun XX X G w0=>?_
 repeat'(first|(refine spl ?_ ?_<;>(intro hb;refine ne ?_))|(refine zl hR ?_;clear hR)|refine s1 ?_|exact True.intro|(refine jU (by rfl) hT ztX (by rfl) (by rfl) (fun c hc=>?_);cases c<;>try simp only[push_cast,seval, *])|(refine j7 (by rfl) hT ztX (by rfl) (by rfl) (by rfl) ?_;simp only[push_cast,seval, *])|(refine Jo 2 9 94 4 (by rfl) (by rfl) ?_)|(refine s2 ?_;try with_reducible intro R hR)|fail)
 ·exact fmx [(0,7)]
 ·exact fmx [(0,9)]
attribute [simp] W.toV
theorem zyV (i bt sq tm b lf:Int):zA Tryz.prog 198 [.loc 0 0,.rd [eI b],.rd [eI lf]] [(0,184,cT ⟨i,bt,sq,tm⟩)] [] (.tup []) [(0,184,cT (ZZ ⟨i,bt,sq,tm⟩ b lf))] []:=by
 refine emx [] Tryz.func198 fun XX X G w0=>?_
 repeat'(first|(refine spl ?_ ?_<;>(intro hb;refine ne ?_))|(refine zl hR ?_;clear hR)|refine s1 ?_|exact True.intro|refine rdb [] ?_|refine cad (zcZ _ _ _ _) ?_|(refine s2 ?_;try with_reducible intro R hR)|fail)
 all_goals((first|refine zI [] ?_|refine zJ [] ?_);simp[*,ZZ];done)
theorem zyW (i bt sq tm:Int):zA Tryz.prog 301 [.loc 0 0] [(0,184,cT ⟨i,bt,sq,tm⟩)] [] (.tup []) [(0,184,cT (QL ⟨i,bt,sq,tm⟩))] []:=by
 refine emx [] Tryz.func301 fun XX X G w0=>?_
 repeat'(first|(refine spl ?_ ?_<;>(intro hb;refine ne ?_))|(refine zl hR ?_;clear hR)|refine s1 ?_|exact True.intro|fail|(refine s2 ?_;try with_reducible intro R hR)|fail)
 all_goals((first|refine zI [] ?_|refine zJ [] ?_);simp[*,QL])
 all_goals grind
def zi2 (x y:Sn):Bool:=x.bt==y.bt&&(x.sq==y.sq&&(x.id==y.id&&x.tm==y.tm))
def zg0 (l:List Sn) (p:Int) (s:Sn):List Sn:=if zi2 s (getS l p)then l else if isS p l then l.set (Jl p l) s else l.take (Jl p l)++[s]++l.drop (Jl p l)
theorem zuN (l:List Sn) (p b lf:Int) (hs:SrtS l) (hl:l.length≤1048576) (s':Sn) (hs':ZZ (getS l p) b lf=s'):zu Tryz.prog 197 [QN l,gI p,.clo 198 [] [.rd [eI b],.rd [eI lf]]] (QN (zg0 l p s')):=by
 have hm:=zyV (getS l p).id (getS l p).bt (getS l p).sq (getS l p).tm b lf
 rw[show(⟨(getS l p).id,(getS l p).bt,(getS l p).sq,(getS l p).tm⟩:Sn)=getS l p from rfl,hs']at hm
 have hle:=znp p l
 cases hi:isS p l
 ·obtain⟨k,hk⟩: ∃k,Jl p l=k:=⟨_,rfl⟩
  rw[hk]at hle
  refine enx [.tmp 6] Tryz.func197 fun X w0=>?_
  repeat'(first|(refine spl ?_ ?_<;>(intro hb;refine ne ?_))|(refine zl hR ?_;clear hR)|refine s1 ?_|exact True.intro|(refine jk true hT (by decide) ?_;simp only[push_cast,seval, *])|(with_reducible refine zL fun R hR=>?_;refine jk true hT (by decide) ?_;simp only[push_cast,seval, *])|refine cM [] [(0,13)] (zb0 l hl) ?_|refine cal (Y9 l p false hs hi hl) ?_|refine cM [(0,9)] [] (hm) ?_|refine cal (Y4 _ _ _ _) ?_|refine cM [] [(0,13),(1,28)] (zr6 (l.map QD) (QD s') k (by simpa using hle) (by simp;omega)) ?_|(refine s2 ?_;try with_reducible intro R hR)|fail)
  all_goals(refine gz ?_;grind[zg0,zi2,QD,List.map_set])
 ·obtain⟨hlt,hat⟩:=zaP hs hi
  obtain⟨k,hk⟩: ∃k,Jl p l=k:=⟨_,rfl⟩
  rw[hk]at hle hlt
  refine enx [.tmp 6] Tryz.func197 fun X w0=>?_
  repeat'(first|(refine spl ?_ ?_<;>(intro hb;refine ne ?_))|(refine zl hR ?_;clear hR)|refine s1 ?_|exact True.intro|(refine jk true hT (by decide) ?_;simp only[push_cast,seval, *])|(with_reducible refine zL fun R hR=>?_;refine jk true hT (by decide) ?_;simp only[push_cast,seval, *])|refine cM [] [(0,13)] (zb0 l hl) ?_|refine cal (Y9 l p true hs hi hl) ?_|refine cM [(0,9)] [] (hm) ?_|refine cal (Y4 _ _ _ _) ?_|(refine s2 ?_;try with_reducible intro R hR)|fail)
  all_goals(refine gz ?_;grind[zg0,zi2,QD,List.map_set])
theorem ztG (l:List Sn) (p:Int) (hs:SrtS l) (hl:l.length≤1048576) (s':Sn) (hs':QL (getS l p)=s'):zu Tryz.prog 197 [QN l,gI p,gF 301] (QN (zg0 l p s')):=by
 have hm:=zyW (getS l p).id (getS l p).bt (getS l p).sq (getS l p).tm
 rw[show(⟨(getS l p).id,(getS l p).bt,(getS l p).sq,(getS l p).tm⟩:Sn)=getS l p from rfl,hs']at hm
 have hle:=znp p l
 cases hi:isS p l
 ·obtain⟨k,hk⟩: ∃k,Jl p l=k:=⟨_,rfl⟩
  rw[hk]at hle
  refine enx [.tmp 6] Tryz.func197 fun X w0=>?_
  repeat'(first|(refine spl ?_ ?_<;>(intro hb;refine ne ?_))|(refine zl hR ?_;clear hR)|refine s1 ?_|exact True.intro|(refine jk true hT (by decide) ?_;simp only[push_cast,seval, *])|(with_reducible refine zL fun R hR=>?_;refine jk true hT (by decide) ?_;simp only[push_cast,seval, *])|refine cM [] [(0,13)] (zb0 l hl) ?_|refine cal (Y9 l p false hs hi hl) ?_|refine cM [(0,9)] [] (hm) ?_|refine cal (Y4 _ _ _ _) ?_|refine cM [] [(0,13),(1,28)] (zr6 (l.map QD) (QD s') k (by simpa using hle) (by simp;omega)) ?_|(refine s2 ?_;try with_reducible intro R hR)|fail)
  all_goals(refine gz ?_;grind[zg0,zi2,QD,List.map_set])
 ·obtain⟨hlt,hat⟩:=zaP hs hi
  obtain⟨k,hk⟩: ∃k,Jl p l=k:=⟨_,rfl⟩
  rw[hk]at hle hlt
  refine enx [.tmp 6] Tryz.func197 fun X w0=>?_
  repeat'(first|(refine spl ?_ ?_<;>(intro hb;refine ne ?_))|(refine zl hR ?_;clear hR)|refine s1 ?_|exact True.intro|(refine jk true hT (by decide) ?_;simp only[push_cast,seval, *])|(with_reducible refine zL fun R hR=>?_;refine jk true hT (by decide) ?_;simp only[push_cast,seval, *])|refine cM [] [(0,13)] (zb0 l hl) ?_|refine cal (Y9 l p true hs hi hl) ?_|refine cM [(0,9)] [] (hm) ?_|refine cal (Y4 _ _ _ _) ?_|(refine s2 ?_;try with_reducible intro R hR)|fail)
  all_goals(refine gz ?_;grind[zg0,zi2,QD,List.map_set])
theorem zuH (l:List Sn) (p b lf:Int) (hs:SrtS l) (hl:l.length≤1048576):zu Tryz.prog 134 [QN l,gI p,gI b,gI lf] (QN (zg0 l p (ZZ (getS l p) b lf))):=by
 refine enx [.tmp 8] Tryz.func134 fun X w0=>?_
 repeat'(first|(refine spl ?_ ?_<;>(intro hb;refine ne ?_))|(refine zl hR ?_;clear hR)|refine s1 ?_|exact True.intro|(refine Qo (zV (t:=6) rfl rfl rfl) ?_;refine Qo (zV (t:=7) rfl rfl rfl) ?_;refine cal (zuN l p b lf hs hl _ rfl) ?_)|(refine s2 ?_;try with_reducible intro R hR)|fail)
theorem zjm (l:List Sn) (p:Int) (hs:SrtS l) (hl:l.length≤1048576):zu Tryz.prog 233 [QN l,gI p] (QN (zg0 l p (QL (getS l p)))):=by
 refine enx [.tmp 4] Tryz.func233 fun X w0=>?_
 repeat'(first|(refine spl ?_ ?_<;>(intro hb;refine ne ?_))|(refine zl hR ?_;clear hR)|refine s1 ?_|exact True.intro|refine cal (ztG l p hs hl _ rfl) ?_|(refine s2 ?_;try with_reducible intro R hR)|fail)
theorem zmH (a:Int) (o:Option Int) (x:Sn) (l:List Sn):JW a o (x::l)=(okS a x&&(match o with|none=>true|some q=>decide (q<x.id))&&JW a (some x.id) l):=by cases o<;>rfl
theorem zhU {a:Int}: ∀ {l:List Sn} {o:Option Int},JW a o l=true↔SrtS l∧(∀x∈l,okS a x=true)∧∀q,o=some q→∀x∈l,q<x.id
 |[],o=>by simp[JW,SrtS]
 | x::l,o=>by
  have ih:=@zhU a l (some x.id)
  rw[zmH,Bool.and_eq_true,Bool.and_eq_true,ih]
  constructor
  ·rintro⟨⟨h1,h2⟩,h3,h4,h5⟩
   refine⟨List.pairwise_cons.2 ⟨h5 _ rfl,h3⟩,fun y hy=>?_,fun q hq y hy=>?_⟩
   ·rcases List.mem_cons.1 hy with rfl|hy
    ·exact h1
    ·exact h4 y hy
   ·subst hq
    have h2:q<x.id:=of_decide_eq_true h2
    rcases List.mem_cons.1 hy with rfl|hy
    ·exact h2
    ·have:=h5 _ rfl y hy;omega
  ·rintro⟨h1,h2,h3⟩
   refine⟨⟨h2 x (List.mem_cons_self ..),?_⟩,h1.tail,fun y hy=>h2 y (List.mem_cons_of_mem _ hy),fun q hq y hy=>by cases hq;exact h1.head y hy⟩
   cases o with
   |none=>rfl
   |some q=>exact decide_eq_true (h3 q rfl x (List.mem_cons_self ..))
theorem ZD {a:Int} {l:List Sn}:fitsS a l=true↔SrtS l∧(∀x∈l,okS a x=true)∧nodeB a=true:=by
 rw[fitsS,Bool.and_eq_true,zhU]
 constructor
 ·rintro⟨⟨h1,h2,_⟩,h3⟩;exact⟨h1,h2,h3⟩
 ·rintro⟨h1,h2,h3⟩;exact⟨⟨h1,h2,fun q hq=>by cases hq⟩,h3⟩
theorem zsB {a:Int} {x:Sn} (h:okS a x=true): ¬(x.bt=0∧x.tm=0):=by grind[okS]
theorem zzC {a:Int} {x:Sn} (h:okS a x=true):0≤x.tm∧x.tm≤1099511627776∧0≤x.bt∧x.bt≤1099511627776∧0≤x.sq∧x.sq≤1099511627776:=by grind[okS]
theorem zxe {x y:Sn} (h:zi2 x y=true):x=y:=by
 obtain⟨a,b,c,d⟩:=x
 obtain⟨a',b',c',d'⟩:=y
 simp[zi2]at h
 simp[h]
theorem zop {l:List Sn} {p:Int} {s':Sn} (hs:SrtS l) (hz: ∀x∈l,¬(x.bt=0∧x.tm=0)) (hid:s'.id=p) (h:s'=getS l p∨¬(s'.bt=0∧s'.tm=0)):zg0 l p s'=qh l s':=by
 unfold zg0
 cases he:zi2 s' (getS l p)
 ·have hn: ¬(s'.bt=0∧s'.tm=0):=by
   rcases h with h|h
   ·rw[←h]at he;simp[zi2]at he
   ·exact h
  unfold qh
  rw[hid,if_neg hn]
  cases hi:isS p l
  ·simp
  ·obtain⟨hl,_⟩:=zaP hs hi
   simp[List.set_eq_take_append_cons_drop,hl]
 ·have:=zxe he
  rw[this,zqB hs hz];simp
theorem zio {a:Int} {l:List Sn} (h: ∀x∈l,okS a x=true) (p:Int):getS l p=⟨p,0,0,0⟩∨(getS l p∈l∧okS a (getS l p)=true):=by
 induction l with
 |nil=>exact .inl rfl
 | cons x l ih=>
  rw[j0]
  split
  ·exact .inr ⟨List.mem_cons_self ..,h x (List.mem_cons_self ..)⟩
  ·rcases ih (fun y hy=>h y (List.mem_cons_of_mem _ hy))with h1|h1
   ·exact .inl h1
   ·exact .inr ⟨List.mem_cons_of_mem _ h1.1,h1.2⟩
theorem zji (s:Sn) (b lf:Int):(ZZ s b lf).id=s.id:=by unfold ZZ;split<;>rfl
theorem zpK (a:Int) (l:List Sn) (p b lf:Int) (hf:fitsS a l=true) (hb:1≤b) (hl:l.length≤1048576):zu Tryz.prog 134 [QN l,gI p,gI b,gI lf] (QN (qh l (ZZ (getS l p) b lf))):=by
 obtain⟨hs,ho,_⟩:=ZD.1 hf
 rw[←zop hs (fun x hx=>zsB (ho x hx)) (by rw[zji,Zk]) ?_]
 ·exact zuH l p b lf hs hl
 ·unfold ZZ
  split
  ·right;rintro⟨h1,_⟩;simp only at h1;omega
  ·left;rfl
theorem zwo {a:Int} {l:List Sn} {p:Int} (ho: ∀x∈l,okS a x=true):1≤(QL (getS l p)).tm∧(QL (getS l p)).tm≤1099511627776:=by
 have h0:0≤(getS l p).tm∧(getS l p).tm≤1099511627776:=by
  rcases zio ho p with h|⟨_,h⟩
  ·rw[h];simp
  ·have:=zzC h;omega
 have e:=yj (x:=(getS l p).tm+1) (by omega)
 simp only[QL,wr,e]
 split<;>omega
theorem zee (a:Int) (l:List Sn) (p:Int) (hf:fitsS a l=true) (hl:l.length≤1048576):zu Tryz.prog 233 [QN l,gI p] (QN (qh l (QL (getS l p)))):=by
 obtain⟨hs,ho,_⟩:=ZD.1 hf
 rw[←zop hs (fun x hx=>zsB (ho x hx)) (show(QL (getS l p)).id=p from Zk l p) (.inr fun h=>by have:=zwo (p:=p) ho;omega)]
 exact zjm l p hs hl
end Go.Proofs.YtbcbnfiedgnfpaaGreat
