import Derived.Test.YtbcbnfiedgnfpaaGreatZ14
import Derived.Test.YtbcbnfiedgnfpaaGreatZ10
set_option linter.unusedSimpArgs false
set_option linter.unusedVariables false
set_option maxRecDepth 100000
set_option maxHeartbeats 2000000
namespace Go.Proofs.YtbcbnfiedgnfpaaGreat
open Go.Dl
attribute [local irreducible] DW yE zY zA zu zky
attribute [local push_cast] zZ qF qC zN zM zD zE qH qE qz Go.Dl.qY yT qy List.mem_cons List.not_mem_nil or_false forall_eq false_implies implies_true
def Qb (l:List Ch):Prop:=l.Pairwise fun a b=>Op.bytesLess a.nm.toList b.nm.toList=true
theorem zoc (o:Option ByteArray) (x:Ch) (l:List Ch):JV o (x::l)=(jC x&&(match o with|none=>true|some q=>Op.bytesLess q.toList x.nm.toList)&&JV (some x.nm) l):=by cases o<;>rfl
theorem zht: ∀ {l:List Ch} {o:Option ByteArray},JV o l=true↔Qb l∧(∀x∈l,jC x=true)∧∀q,o=some q→∀x∈l,Op.bytesLess q.toList x.nm.toList=true
 |[],o=>by simp[JV,Qb]
 | x::l,o=>by
  have ih:=@zht l (some x.nm)
  rw[zoc,Bool.and_eq_true,Bool.and_eq_true,ih]
  constructor
  ·rintro⟨⟨h1,h2⟩,h3,h4,h5⟩
   refine⟨List.pairwise_cons.2 ⟨h5 _ rfl,h3⟩,fun y hy=>?_,fun q hq y hy=>?_⟩
   ·rcases List.mem_cons.1 hy with rfl|hy
    ·exact h1
    ·exact h4 y hy
   ·subst hq
    have h2:Op.bytesLess q.toList x.nm.toList=true:=h2
    rcases List.mem_cons.1 hy with rfl|hy
    ·exact h2
    ·exact Zg h2 (h5 _ rfl y hy)
  ·rintro⟨h1,h2,h3⟩
   have h1':=List.pairwise_cons.1 h1
   refine⟨⟨h2 x (List.mem_cons_self ..),?_⟩,h1'.2,fun y hy=>h2 y (List.mem_cons_of_mem _ hy),fun q hq y hy=>by cases hq;exact h1'.1 y hy⟩
   cases o with
   |none=>rfl
   |some q=>exact h3 q rfl x (List.mem_cons_self ..)
theorem Z7 {l:List Ch}:Z5 l=true↔l.length≤8∧Qb l∧∀x∈l,jC x=true:=by
 rw[Z5,Bool.and_eq_true,decide_eq_true_eq,zht]
 constructor
 ·rintro⟨h1,h2,h3,_⟩;exact⟨h1,h2,h3⟩
 ·rintro⟨h1,h2,h3⟩;exact⟨h1,h2,h3,fun q hq=>by cases hq⟩
theorem zaT {c:Ch}: ∀ {l:List Ch},(∀y∈l,(y.nm.toList==c.nm.toList)=false)→jX true l c=l
 |[],_=>rfl
 |x::l,h=>by
  rw[y5,h x (List.mem_cons_self ..)]
  simp[zaT fun y hy=>h y (List.mem_cons_of_mem _ hy)]
theorem zgr {n:ByteArray}: ∀ {l:List Ch},(∀y∈l,(y.nm.toList==n.toList)=false)→z5 l n=(zdf,false)
 |[],_=>rfl
 |x::l,h=>by
  rw[jF,h x (List.mem_cons_self ..)]
  simp[zgr fun y hy=>h y (List.mem_cons_of_mem _ hy)]
theorem Zu {n:ByteArray} {c:Ch}: ∀ {l:List Ch},z5 l n=(c,true)→c∈l∧c.nm=n
 |[],h=>by simp[za9]at h
 | x::l,h=>by
  rw[jF]at h
  cases hx:x.nm.toList==n.toList
  ·rw[hx]at h
   have:=Zu (l:=l) (by simpa using h)
   exact⟨List.mem_cons_of_mem _ this.1,this.2⟩
  ·rw[hx]at h
   injection h with h _
   subst h
   exact⟨List.mem_cons_self ..,zf3 hx⟩
theorem YC {n:ByteArray}: ∀ {l:List Ch},(z5 l n).2=false→z5 l n=(zdf,false)∧∀y∈l,(y.nm.toList==n.toList)=false
 |[],_=>⟨rfl,fun _ h=>by cases h⟩
 | x::l,h=>by
  rw[jF]at h ⊢
  cases hx:x.nm.toList==n.toList
  ·rw[hx]at h
   have:=YC (l:=l) (by simpa using h)
   refine⟨by simpa using this.1,fun y hy=>?_⟩
   rcases List.mem_cons.1 hy with rfl|hy
   ·exact hx
   ·exact this.2 y hy
  ·rw[hx]at h;simp at h
theorem zcv: ∀(l:List Ch) (o:List Ch) (w:Int),zfP (jm l none) (o,w)=(o++l,w)
 |[],o,w=>by simp[jm,zfP]
 |x::l,o,w=>by rw[zbv,Q0];simp only[zlm];rw[zcv l];simp
def znv (l:List Ch) (c:Ch):List Ch×Int:=
 let o:=z5 l c.nm
 if !o.2 then(jX false l c,4)else if newR c.ep c.ma o.1.ep o.1.ma then(jX false l c,3)else if newR o.1.ep o.1.ma c.ep c.ma then(l,1)else(l,2)
theorem zkE (c:Ch): ∀(l:List Ch) (o:List Ch),Qb l→zfP (jm l (some c)) (o,4)=(o++(znv l c).1,(znv l c).2)
 |[],o,_=>by simp[jm,zfP,zlm,znv,za9,YY]
 | x ::l,o,hs=>by
  have hs':=List.pairwise_cons.1 hs
  cases hlt:Op.bytesLess c.nm.toList x.nm.toList
  ·cases heq:c.nm.toList==x.nm.toList
   ·have hxc:Op.bytesLess x.nm.toList c.nm.toList=true:=zdr hlt (by simpa using heq)
    have hne:(x.nm.toList==c.nm.toList)=false:=ztq hxc
    rw[zmV hlt heq,Q0]
    simp only[zlm]
    rw[zkE c l _ hs'.2]
    unfold znv
    rw[jF,hne,y5,hxc,hne]
    simp only[Bool.false_eq_true,if_false,Bool.not_false,Bool.not_true,Bool.and_false,Bool.or_false,List.nil_append]
    cases hf:(z5 l c.nm).2
    ·simp
    ·by_cases h1:newR c.ep c.ma (z5 l c.nm).1.ep (z5 l c.nm).1.ma=true
     ·simp[h1]
     ·by_cases h2:newR (z5 l c.nm).1.ep (z5 l c.nm).1.ma c.ep c.ma=true<;>simp[h1,h2]
   ·have e:=eq_of_beq heq
    have hxc:Op.bytesLess x.nm.toList c.nm.toList=false:=by rw[e,y4]
    have hx2:(x.nm.toList==c.nm.toList)=true:=by rw[e];simp
    have hp:jX true l c=l:=zaT fun y hy=>zfV (by rw[e];exact hs'.1 y hy)
    rw[zm2 hlt heq,Q0]
    unfold znv
    rw[jF,hx2,y5,hxc,hx2]
    simp only[zlm]
    by_cases h1:newR c.ep c.ma x.ep x.ma=true
    ·simp[h1,hp,zcv]
    ·by_cases h2:newR x.ep x.ma c.ep c.ma=true<;>simp[h1,h2,zcv]
  ·have hxc:Op.bytesLess x.nm.toList c.nm.toList=false:=zoO hlt
   have hne:(x.nm.toList==c.nm.toList)=false:=zfV hlt
   have hall: ∀y∈l,(y.nm.toList==c.nm.toList)=false:=fun y hy=>zfV (Zg hlt (hs'.1 y hy))
   rw[zmX hlt,Q0,zbv,Q0]
   simp only[zlm]
   rw[zcv]
   unfold znv
   rw[jF,hne,zgr hall,y5,hxc,hne]
   simp[zaT hall]
theorem zz2 {l:List Ch} (c:Ch) (hs:Qb l):zv8 l c=yx l c:=by
 unfold zv8 yx
 rw[zkE c l [] hs]
 unfold znv
 cases hf:(z5 l c.nm).2
 ·by_cases h8:8≤l.length<;>simp[h8,hf]
 ·by_cases h1:newR c.ep c.ma (z5 l c.nm).1.ep (z5 l c.nm).1.ma=true
  ·simp[h1,hf]
  ·by_cases h2:newR (z5 l c.nm).1.ep (z5 l c.nm).1.ma c.ep c.ma=true<;>simp[h1,h2,hf]
theorem zbE (l:List Ch) (c:Ch) (hs:Qb l) (hl:l.length≤1000000):zu Tryz.prog 212 [gCs l,gC c] (rCI (yx l c)):=by
 rw[←zz2 c hs];exact zlQ l c hl
def EpC (l:List Ch):Prop:=∀x∈l,1≤x.ep∧x.ep≤1099511627776
theorem ziq {x:Ch} (h:jC x=true):1≤x.ep∧x.ep≤1099511627776:=by grind[jC]
theorem Ja {l:List Ch} (he:EpC l) (n:ByteArray):0≤(z5 l n).1.ep∧(z5 l n).1.ep≤1099511627776∧((z5 l n).2=false→(z5 l n).1=zdf)∧((z5 l n).2=true→(z5 l n).1.nm=n):=by
 rcases h:z5 l n with⟨c,b⟩
 cases b
 ·have h0:=YC (l:=l) (n:=n) (by rw[h])
  rw[h0.1]at h
  injection h with h _
  subst h
  exact⟨by decide,by decide,fun _=>rfl,fun h=>(by cases h)⟩
 ·have h0:=Zu h
  have:=he c h0.1
  exact⟨(by show 0≤c.ep;omega),this.2,fun h=>(by cases h),fun _=>h0.2⟩
theorem zpE {e m m':Int}:newR (e+1) m e m'=true:=by grind[newR]
theorem zjR (l:List Ch) (mk:Int) (nm:ByteArray) (kd sc:Int) (hs:Qb l) (he:EpC l) (hl:l.length≤1000000):zu Tryz.prog 142 [gCs l,gI mk,gS nm,gI kd,gI sc] (rCI (yD l mk nm kd sc)):=by
 have hl2:l.length≤1048576:=by omega
 have hf:=Ja he nm
 obtain⟨o,ho⟩: ∃o,z5 l nm=o:=⟨_,rfl⟩
 have hlr:(o.2=true∨l.length<8)→(yx l ⟨nm,wr (o.1.ep+1),mk,true,kd,sc⟩).1=jX false l ⟨nm,wr (o.1.ep+1),mk,true,kd,sc⟩:=fun h=>by
  unfold yx
  rw[ho]at hf ⊢
  have e:=yj (x:=o.1.ep+1) (by omega)
  simp only[wr,e,zpE,if_true]
  rcases h with h|h
  ·simp[h]
  ·have: ¬8≤l.length:=by omega
   cases h2:o.2<;>simp[this]
 rw[ho]at hf
 have hF:=Lib.hid hf
 clear hf
 refine enx [.tmp 10,.tmp 11] Tryz.func142 fun X w0=>?_
 repeat'(first|(refine spl ?_ ?_<;>(intro hb;refine ne ?_))|(refine zl hR ?_;clear hR)|refine s1 ?_|exact True.intro|refine cal (zhq _ _ hl2) ?_|refine cal (zfq _ hl2) ?_|refine cal (zhJ _) ?_|refine cal (zho _) ?_|refine cal (zd3 _ _) ?_|refine cal (zbE l ⟨nm,wr (o.1.ep+1),mk,true,kd,sc⟩ hs hl) ?_|(refine s2 ?_;try with_reducible intro R hR)|fail)
 (all_goals(repeat(first|clear hR|clear hRA|clear hRn|clear hRr|clear hRe|clear hRL)))
 all_goals have hf:=hF.out
 all_goals grind[yD]
theorem zkp (l:List Ch) (mk:Int) (nm:ByteArray) (hs:Qb l) (he:EpC l) (hl:l.length≤1000000):zu Tryz.prog 234 [gCs l,gI mk,gS nm] (rCI (yF l mk nm)):=by
 have hl2:l.length≤1048576:=by omega
 have hf:=Ja he nm
 obtain⟨o,ho⟩: ∃o,z5 l nm=o:=⟨_,rfl⟩
 have hlr:o.2=true→(yx l ⟨o.1.nm,wr (o.1.ep+1),mk,false,o.1.kd,o.1.sc⟩).1=jX false l ⟨o.1.nm,wr (o.1.ep+1),mk,false,o.1.kd,o.1.sc⟩:=fun h=>by
  rw[ho]at hf
  unfold yx
  simp only[hf.2.2.2 h,ho]
  have e:=yj (x:=o.1.ep+1) (by omega)
  simp only[wr,e,zpE,if_true,h]
  simp
 rw[ho]at hf
 have hF:=Lib.hid hf
 clear hf
 refine enx [.tmp 6,.tmp 7] Tryz.func234 fun X w0=>?_
 repeat'(first|(refine spl ?_ ?_<;>(intro hb;refine ne ?_))|(refine zl hR ?_;clear hR)|refine s1 ?_|exact True.intro|refine cal (zhq _ _ hl2) ?_|refine cal (zfq _ hl2) ?_|refine cal (zbE l ⟨o.1.nm,wr (o.1.ep+1),mk,false,o.1.kd,o.1.sc⟩ hs hl) ?_|(refine s2 ?_;try with_reducible intro R hR)|fail)
 (all_goals(repeat(first|clear hR|clear hRA|clear hRn|clear hRr|clear hRe|clear hRL)))
 all_goals have hf:=hF.out
 all_goals grind[yF]
def Q8 (n:ByteArray):List Tt→Int
 |[]=>-1
 |x::l=>if x.c.nm.toList==n.toList then 0 else if Q8 n l<0 then -1 else Q8 n l+1
theorem zrL (n:ByteArray):Q8 n []= -1:=rfl
theorem zds (n:ByteArray) (x:Tt) (l:List Tt):Q8 n (x::l)=if x.c.nm.toList==n.toList then 0 else if Q8 n l<0 then -1 else Q8 n l+1:=rfl
theorem zeC (n:ByteArray): ∀l:List Tt,-1≤Q8 n l∧Q8 n l<l.length
 |[]=>by simp[Q8]
 |x::l=>by have:=zeC n l;rw[zds,List.length_cons];grind
theorem zsT (n:ByteArray) (l:List Tt):upZ 0 (Q8 n l)=Q8 n l:=by have:=zeC n l;unfold upZ;grind
theorem znP (n:ByteArray) (l:List Tt):Q8 n l= -1∨∃k:Nat,k<l.length∧Q8 n l=k:=by
 have:=zeC n l
 rcases Int.lt_or_le (Q8 n l) 0 with h|h
 ·left;omega
 ·right;exact⟨(Q8 n l).toNat,by omega,by omega⟩
theorem zvL (x:Tt) (c:Ch):zu Tryz.prog 214 [gT x,.rd [eS c.nm,eI c.ep,eI c.ma,eB c.al,eI c.kd,eI c.sc]] (gB (x.c.nm.toList==c.nm.toList)):=by
 refine enx [.tmp 3] Tryz.func214 fun X w0=>?_
 repeat'(first|(refine spl ?_ ?_<;>(intro hb;refine ne ?_))|(refine zl hR ?_;clear hR)|refine s1 ?_|exact True.intro|fail|(refine s2 ?_;try with_reducible intro R hR)|fail)
 all_goals(refine gz ?_;grind[])
theorem zuf (l:List Tt) (c:Ch) (hl:l.length≤1048576):zu Tryz.prog 213 [j8 l,.clo 214 [] [.rd [eS c.nm,eI c.ep,eI c.ma,eB c.al,eI c.kd,eI c.sc]]] (gI (Q8 c.nm l)):=by
 refine enx [.tmp 4] Tryz.func213 fun X w0=>?_
 repeat'(first|(refine spl ?_ ?_<;>(intro hb;refine ne ?_))|(refine zl hR ?_;clear hR)|refine s1 ?_|exact True.intro|((with_reducible refine zW ?_);refine rgx (ι:=Unit) (l.length) (fun k _=>St.ofA [(0,j8 l),(1,.clo 214 [] [.rd [eS c.nm,eI c.ep,eI c.ma,eB c.al,eI c.kd,eI c.sc]]),(7,gI l.length),(8,gI k)] [] []) (fun k _=>Q8 c.nm l=upZ k (Q8 c.nm (l.drop k))) () ?_ (fun k x hJ hk=>?_) (fun x hJ=>?_))|refine cav (zvL l[k] c) ?_|refine rnx (()) ?_|(refine s2 ?_;try with_reducible intro R hR)|fail)
 (all_goals(repeat(first|clear hR|clear hRA|clear hRn|clear hRr|clear hRe|clear hRL)))
 all_goals try simp only[List.drop_zero,zsT]
 all_goals grind[zrL,zds,upZ,zP,zeC]
def zkw (l:List Tt) (c:Ch) (nm:ByteArray):Tt:=if decide (0≤Q8 c.nm l)&& !(c.nm.toList==nm.toList)then l.getD (Q8 c.nm l).toNat zwl else zbA c
def zen (l:List Tt) (r:List Ch) (nm:ByteArray):List Tt:=r.map fun c=>zkw l c nm
theorem zvJ {l:List Tt} {r:List Ch} {nm:ByteArray} {k:Nat} (h:k<r.length):(zen l r nm).take (k+1)=(zen l r nm).take k++[zkw l r[k] nm]:=by
 rw[qJ (by simpa[zen]using h)];simp[zen]
theorem zsx (l:List Tt) (r:List Ch) (nm:ByteArray):(zen l r nm).length=r.length:=by simp[zen]
theorem zsN {l:List Tt} {c:Ch} {nm:ByteArray} {i:Nat} (hi:Q8 c.nm l=i) (hil:i<l.length) (hn:(c.nm.toList==nm.toList)=false):zkw l c nm=l[i]:=by
 unfold zkw;rw[hi,hn];simp[hil]
theorem ztw {l:List Tt} {c:Ch} {nm:ByteArray} (hn:(c.nm.toList==nm.toList)=true):zkw l c nm=zbA c:=by
 unfold zkw;rw[hn];simp
theorem zyX {l:List Tt} {c:Ch} {nm:ByteArray} (hi:Q8 c.nm l= -1):zkw l c nm=zbA c:=by
 unfold zkw;rw[hi];simp
theorem ze6 (l:List Tt) (r:List Ch) (nm:ByteArray) (hl:l.length≤1048576) (hr:r.length≤1048576):zu Tryz.prog 144 [j8 l,gCs r,gS nm] (j8 (zen l r nm)):=by
 refine enx [.tmp 6] Tryz.func144 fun X w0=>?_
 repeat'(first|(refine spl ?_ ?_<;>(intro hb;refine ne ?_))|(refine zl hR ?_;clear hR)|refine s1 ?_|exact True.intro|((with_reducible refine zW ?_);refine zgC 7 90 101 16 ?_;refine rgx (ι:=List Tt×Nat) (r.length) (fun k x=>St.ofA [(0,j8 l),(2,gS nm),(7,.c (.o 90)),(12,gCs r),(13,gI r.length),(14,gI k)] [] [(90,x.2,101,16,x.1.map QO)]) (fun k x=>(zen l r nm).take k=x.1∧x.1.length=k) ([],90) ?_ (fun k x hJ hk=>?_) (fun x hJ=>?_))|(refine Qo (zV (t:=9) rfl rfl rfl) ?_;have hif:=zuf l r[k] hl;rcases znP r[k].nm l with hi|⟨i,hil,hi⟩<;>rw[hi]at hif<;>refine cal (hif) ?_)|refine rnx ((x.1++[zbA r[k]],38)) ?_|refine rnx ((x.1++[l[i]],38)) ?_|(refine s2 ?_;try with_reducible intro R hR)|fail)
 (all_goals(repeat(first|clear hR|clear hRA|clear hRn|clear hRr|clear hRe|clear hRL)))
 all_goals first
  |(refine⟨?_,by simp[hJ.2]⟩;rw[zvJ hk,hJ.1];first|rw[zyX hi]|rw[zsN hi hil (by simpa using hb)]|rw[ztw (by simpa using hb)])
  |grind[zsx,QO,List.take_of_length_le]
theorem YZ {c y:Ch}: ∀ {d:Bool} {l:List Ch},y∈jX d l c→y=c∨(y∈l∧(y.nm.toList==c.nm.toList)=false)
 |d,[],h=>by rw[YY]at h;cases d<;>simp at h;exact .inl h
 | d,x::l,h=>by
  rw[y5,List.mem_append,List.mem_append]at h
  rcases h with(h|h)|h
  ·split at h
   ·exact .inl (List.mem_singleton.1 h)
   ·cases h
  ·split at h
   ·cases h
   ·rename_i hx
    have:=List.mem_singleton.1 h
    subst this
    exact .inr ⟨List.mem_cons_self ..,by simpa using hx⟩
  ·rcases YZ h with h|h
   ·exact .inl h
   ·exact .inr ⟨List.mem_cons_of_mem _ h.1,h.2⟩
theorem Q7 (c:Ch): ∀(d:Bool) (l:List Ch),(jX d l c).length≤l.length+(if d then 0 else 1)
 |d,[]=>by rw[YY];cases d<;>simp
 |d,x::l=>by
  have h1:=Q7 c true l
  have h2:=Q7 c false l
  rw[y5]
  cases d<;>cases Op.bytesLess x.nm.toList c.nm.toList<;>cases x.nm.toList==c.nm.toList<;>simp at h1 h2 ⊢<;>omega
theorem zfg {c:Ch}: ∀ {l:List Tt} {s:Tt},(∀x∈l,zel x.c c=false)→pkB c l s=s
 |[],s,_=>rfl
 |x::l,s,h=>by
  rw[zap,h x (List.mem_cons_self ..)]
  exact zfg fun y hy=>h y (List.mem_cons_of_mem _ hy)
theorem zis {a b:ByteArray}:(a==b)=true↔a=b:=by
 obtain⟨d⟩:=a
 obtain⟨d'⟩:=b
 show(d==d')=true↔_
 simp
theorem ziF {x y:Ch} (h:zel x y=true):x=y:=by
 obtain⟨a,b,c,d,e,f⟩:=x
 obtain⟨a',b',c',d',e',f'⟩:=y
 simp[zel,zis]at h
 simp[h]
theorem zqh (x:Ch):zel x x=true:=by simp[zel,zis]
theorem zpd {x y:Ch} (h:x≠y):zel x y=false:=by
 cases hq:zel x y
 ·rfl
 ·exact absurd (ziF hq) h
theorem zzZ {l:List Tt} (hs:Qb (recT l)) {x:Tt} (hx:x∈l) (s:Tt):pkB x.c l s=x∧∃i:Nat,∃hi:i<l.length,Q8 x.c.nm l=i∧l[i]=x:=by
 induction l generalizing s with
 |nil=>cases hx
 | cons y l ih=>
  have hs':=List.pairwise_cons.1 hs
  rw[zap,zds]
  rcases List.mem_cons.1 hx with rfl|hx
  ·rw[zqh,if_pos rfl,zfg fun z hz=>zpd fun e=>?_]
   ·refine⟨rfl,0,by simp,by simp,rfl⟩
   ·have:=hs'.1 z.c (List.mem_map.2 ⟨z,hz,rfl⟩)
    rw[e,y4]at this;cases this
  ·have hlt:Op.bytesLess y.c.nm.toList x.c.nm.toList=true:=hs'.1 x.c (List.mem_map.2 ⟨x,hx,rfl⟩)
   have hne:(y.c.nm.toList==x.c.nm.toList)=false:=ztq hlt
   obtain⟨h1,i,hi,h2,h3⟩:=ih hs'.2 hx (if zel y.c x.c=true then y else s)
   refine⟨h1,i+1,by simpa using hi,?_,by simpa using h3⟩
   rw[hne,h2,if_neg (by simp),if_neg (by omega)]
   omega
theorem ziZ {l:List Tt} {r:List Ch} {c:Ch} (hs:Qb (recT l)) (hnew: ∀x∈l,x.c≠c) (hr: ∀y∈r,y=c∨(y∈recT l∧(y.nm.toList==c.nm.toList)=false)):zen l r c.nm=JM l r:=by
 refine List.map_congr_left fun y hy=>?_
 rcases hr y hy with rfl|⟨h1,h2⟩
 ·rw[ztw (by simp),zfg fun x hx=>zpd (hnew x hx)]
 ·obtain⟨x,hx,rfl⟩:=List.mem_map.1 h1
  obtain⟨q1,i,hi,q2,q3⟩:=zzZ hs hx (zbA x.c)
  rw[zsN q2 hi h2,q1,q3]
abbrev zA4 (x:List Tt×Bool):V:=.tup [(false,[.f (.l 16 (x.1.map QO))]),(false,[.f (eB x.2)])]
abbrev zgF (x:List Tt×Int):V:=.tup [(false,[.f (.l 16 (x.1.map QO))]),(false,[.f (eI x.2)])]
def Qw (l:List Tt) (c:Ch):List Tt×Bool:=if(yx (recT l) c).2=4∨(yx (recT l) c).2=3 then(JM l (yx (recT l) c).1,true)else(l,false)
theorem zfh (l:List Ch) (c:Ch):(yx l c).1.length≤l.length+1:=by
 have:=Q7 c false l
 unfold yx
 simp only at this ⊢
 split
 ·simp
 ·split
  ·simpa using this
  ·split
   ·simpa using this
   ·split<;>simp
theorem ziC (l:List Tt) (c:Ch) (hl:l.length≤1000000):zu Tryz.prog 346 [j8 l,gC c] (zA4 (Qw l c)):=by
 have hl2:l.length≤1048576:=by omega
 have hl3:(recT l).length≤1000000:=by simpa using hl
 have hl4:=zfh (recT l) c
 refine enx [.tmp 4,.tmp 5] Tryz.func346 fun X w0=>?_
 repeat'(first|(refine spl ?_ ?_<;>(intro hb;refine ne ?_))|(refine zl hR ?_;clear hR)|refine s1 ?_|exact True.intro|refine rdb [] ?_|refine cad (QJ _ hl2) ?_|refine cad (ziw (recT l) c hl3) ?_|refine cal (YI _ hl2) ?_|refine cal (zbu _ _ hl2 (by omega)) ?_|(refine s2 ?_;try with_reducible intro R hR)|fail)
 (all_goals(repeat(first|clear hR|clear hRA|clear hRn|clear hRr|clear hRe|clear hRL)))
 all_goals grind[Qw]
theorem zq0 {l:List Tt} {c:Ch} (hs:Qb (recT l)) (h:(yx (recT l) c).2=4∨(yx (recT l) c).2=3):zen l (yx (recT l) c).1 c.nm=JM l (yx (recT l) c).1:=by
 have hput:(yx (recT l) c).1=jX false (recT l) c:=by
  unfold yx at h ⊢
  simp only at h ⊢
  split at h
  ·simp at h
  ·split at h
   ·rename_i h1 h2;rw[if_neg h1,if_pos h2]
   ·split at h
    ·rename_i h1 h2 h3;rw[if_neg h1,if_neg h2,if_pos h3]
    ·split at h<;>simp at h
 rw[hput]
 refine ziZ hs (fun x hx e=>?_) fun y hy=>YZ hy
 have hm:c∈recT l:=List.mem_map.2 ⟨x,hx,e⟩
 rcases hf:z5 (recT l) c.nm with⟨o,b⟩
 cases b
 ·have:=(YC (l:=recT l) (n:=c.nm) (by rw[hf])).2 c hm
  simp at this
 ·have ho:=Zu hf
  have heq:o=c:=by
   obtain⟨i,hi,rfl⟩:=List.getElem_of_mem ho.1
   obtain⟨j,hj,hjc⟩:=List.getElem_of_mem hm
   rcases Nat.lt_trichotomy i j with hij|hij|hij
   ·have:=List.pairwise_iff_getElem.1 hs i j hi hj hij
    rw[hjc,ho.2,y4]at this;cases this
   ·subst hij;exact hjc
   ·have:=List.pairwise_iff_getElem.1 hs j i hj hi hij
    rw[hjc,ho.2,y4]at this;cases this
  subst heq
  have hn:newR o.ep o.ma o.ep o.ma=false:=by simp[newR]
  unfold yx at h
  rw[hf]at h
  simp[hn]at h
theorem zqW (l:List Tt) (c:Ch) (hs:Qb (recT l)) (hl:l.length≤1000000):zu Tryz.prog 274 [j8 l,gC c] (zA4 (Qw l c)):=by
 have hl2:l.length≤1048576:=by omega
 have hl3:(recT l).length≤1000000:=by simpa using hl
 have hl4:=zfh (recT l) c
 refine enx [.tmp 4,.tmp 5] Tryz.func274 fun X w0=>?_
 repeat'(first|(refine spl ?_ ?_<;>(intro hb;refine ne ?_))|(refine zl hR ?_;clear hR)|refine s1 ?_|exact True.intro|refine rdb [] ?_|refine cad (Yy _ hl2) ?_|refine cad (zbE (recT l) c hs hl3) ?_|refine cal (zcR _ hl2) ?_|refine cal (ze6 _ _ _ hl2 (by omega)) ?_|(refine s2 ?_;try with_reducible intro R hR)|fail)
 (all_goals(repeat(first|clear hR|clear hRA|clear hRn|clear hRr|clear hRe|clear hRL)))
 all_goals grind[Qw,zq0]
def zdk (l:List Tt) (id:Int) (nm:ByteArray) (kd sc:Int):List Tt×Int:=if(yD (recT l) id nm kd sc).2=0 then(JM l (yD (recT l) id nm kd sc).1,0)else(l,(yD (recT l) id nm kd sc).2)
def zdt (l:List Tt) (id:Int) (nm:ByteArray):List Tt×Int:=if(yF (recT l) id nm).2=0 then(JM l (yF (recT l) id nm).1,0)else(l,(yF (recT l) id nm).2)
theorem zed (l:List Ch) (id:Int) (nm:ByteArray) (kd sc:Int):(yD l id nm kd sc).1.length≤l.length+1:=by
 unfold yD
 simp only
 repeat' split
 all_goals first|(simp;done)|(refine Nat.le_trans (Q7 _ false l) ?_;simp)
theorem zd9 (l:List Ch) (id:Int) (nm:ByteArray):(yF l id nm).1.length≤l.length+1:=by
 unfold yF
 simp only
 repeat' split
 all_goals first|(simp;done)|(refine Nat.le_trans (Q7 _ false l) ?_;simp)
theorem zgS (l:List Tt) (id:Int) (nm:ByteArray) (kd sc:Int) (hl:l.length≤1000000) (hn:nm.size≤1048576):zu Tryz.prog 174 [j8 l,gI id,gS nm,gI kd,gI sc] (zgF (zdk l id nm kd sc)):=by
 have hl2:l.length≤1048576:=by omega
 have hl3:(recT l).length≤1000000:=by simpa using hl
 have hl4:=zed (recT l) id nm kd sc
 refine enx [.tmp 10,.tmp 11] Tryz.func174 fun X w0=>?_
 repeat'(first|(refine spl ?_ ?_<;>(intro hb;refine ne ?_))|(refine zl hR ?_;clear hR)|refine s1 ?_|exact True.intro|refine rdb [] ?_|refine cal (QJ _ hl2) ?_|refine cal (zgH (recT l) id nm kd sc hl3 hn) ?_|refine cal (YI _ hl2) ?_|refine cal (zbu _ _ hl2 (by omega)) ?_|(refine s2 ?_;try with_reducible intro R hR)|fail)
 (all_goals(repeat(first|clear hR|clear hRA|clear hRn|clear hRr|clear hRe|clear hRL)))
 all_goals grind[zdk]
theorem zgQ (l:List Tt) (id:Int) (nm:ByteArray) (hl:l.length≤1000000):zu Tryz.prog 176 [j8 l,gI id,gS nm] (zgF (zdt l id nm)):=by
 have hl2:l.length≤1048576:=by omega
 have hl3:(recT l).length≤1000000:=by simpa using hl
 have hl4:=zd9 (recT l) id nm
 refine enx [.tmp 6,.tmp 7] Tryz.func176 fun X w0=>?_
 repeat'(first|(refine spl ?_ ?_<;>(intro hb;refine ne ?_))|(refine zl hR ?_;clear hR)|refine s1 ?_|exact True.intro|refine rdb [] ?_|refine cal (QJ _ hl2) ?_|refine cal (zgR (recT l) id nm hl3) ?_|refine cal (YI _ hl2) ?_|refine cal (zbu _ _ hl2 (by omega)) ?_|(refine s2 ?_;try with_reducible intro R hR)|fail)
 (all_goals(repeat(first|clear hR|clear hRA|clear hRn|clear hRr|clear hRe|clear hRL)))
 all_goals grind[zdt]
theorem zr2 {l:List Tt} {nm:ByteArray} {c:Ch} (hs:Qb (recT l)) (he:EpC (recT l)) (hc:c.nm=nm) (hep:c.ep=(z5 (recT l) nm).1.ep+1): ∀x∈l,x.c≠c:=fun x hx e=>by
 subst hc
 have hm:c∈recT l:=List.mem_map.2 ⟨x,hx,e⟩
 rcases hf:z5 (recT l) c.nm with⟨o,b⟩
 cases b
 ·have:=(YC (l:=recT l) (n:=c.nm) (by rw[hf])).2 c hm
  simp at this
 ·have ho:=Zu hf
  have heq:o=c:=by
   obtain⟨i,hi,rfl⟩:=List.getElem_of_mem ho.1
   obtain⟨j,hj,hjc⟩:=List.getElem_of_mem hm
   rcases Nat.lt_trichotomy i j with hij|hij|hij
   ·have:=List.pairwise_iff_getElem.1 hs i j hi hj hij
    rw[hjc,ho.2,y4]at this;cases this
   ·subst hij;exact hjc
   ·have:=List.pairwise_iff_getElem.1 hs j i hj hi hij
    rw[hjc,ho.2,y4]at this;cases this
  rw[hf]at hep
  subst heq
  have hep:o.ep=o.ep+1:=hep
  omega
theorem znD {l:List Tt} {id:Int} {nm:ByteArray} {kd sc:Int} (hs:Qb (recT l)) (he:EpC (recT l)) (h:(yD (recT l) id nm kd sc).2=0):zen l (yD (recT l) id nm kd sc).1 nm=JM l (yD (recT l) id nm kd sc).1:=by
 have hf:=Ja he nm
 have e:=yj (x:=(z5 (recT l) nm).1.ep+1) (by omega)
 have hput:(yD (recT l) id nm kd sc).1=jX false (recT l) ⟨nm,wr ((z5 (recT l) nm).1.ep+1),id,true,kd,sc⟩:=by
  grind[yD]
 rw[hput]
 exact ziZ (c:=⟨nm,wr ((z5 (recT l) nm).1.ep+1),id,true,kd,sc⟩) hs (zr2 hs he rfl e) fun y hy=>YZ hy
theorem zoi {l:List Tt} {id:Int} {nm:ByteArray} (hs:Qb (recT l)) (he:EpC (recT l)) (h:(yF (recT l) id nm).2=0):zen l (yF (recT l) id nm).1 nm=JM l (yF (recT l) id nm).1:=by
 have hf:=Ja he nm
 have e:=yj (x:=(z5 (recT l) nm).1.ep+1) (by omega)
 obtain⟨o,ho⟩: ∃o,z5 (recT l) nm=o:=⟨_,rfl⟩
 have hput:(yF (recT l) id nm).1=jX false (recT l) ⟨o.1.nm,wr (o.1.ep+1),id,false,o.1.kd,o.1.sc⟩∧o.2=true:=by
  grind[yF]
 rw[ho]at hf e
 have hnm:=hf.2.2.2 hput.2
 rw[hput.1]
 have h9:=ziZ (c:=⟨o.1.nm,wr (o.1.ep+1),id,false,o.1.kd,o.1.sc⟩) (r:=jX false (recT l) ⟨o.1.nm,wr (o.1.ep+1),id,false,o.1.kd,o.1.sc⟩) hs (zr2 (nm:=nm) hs he hnm (by rw[ho];exact e)) fun y hy=>YZ hy
 rw[←hnm]
 exact h9
theorem zn0 (l:List Tt) (id:Int) (nm:ByteArray) (kd sc:Int) (hs:Qb (recT l)) (he:EpC (recT l)) (hl:l.length≤1000000):zu Tryz.prog 71 [j8 l,gI id,gS nm,gI kd,gI sc] (zgF (zdk l id nm kd sc)):=by
 have hl2:l.length≤1048576:=by omega
 have hl3:(recT l).length≤1000000:=by simpa using hl
 have hl4:=zed (recT l) id nm kd sc
 refine enx [.tmp 10,.tmp 11] Tryz.func71 fun X w0=>?_
 repeat'(first|(refine spl ?_ ?_<;>(intro hb;refine ne ?_))|(refine zl hR ?_;clear hR)|refine s1 ?_|exact True.intro|refine rdb [] ?_|refine cal (Yy _ hl2) ?_|refine cal (zjR (recT l) id nm kd sc hs he hl3) ?_|refine cal (zcR _ hl2) ?_|refine cal (ze6 _ _ _ hl2 (by omega)) ?_|(refine s2 ?_;try with_reducible intro R hR)|fail)
 (all_goals(repeat(first|clear hR|clear hRA|clear hRn|clear hRr|clear hRe|clear hRL)))
 all_goals grind[zdk,znD]
theorem zm3 (l:List Tt) (id:Int) (nm:ByteArray) (hs:Qb (recT l)) (he:EpC (recT l)) (hl:l.length≤1000000):zu Tryz.prog 168 [j8 l,gI id,gS nm] (zgF (zdt l id nm)):=by
 have hl2:l.length≤1048576:=by omega
 have hl3:(recT l).length≤1000000:=by simpa using hl
 have hl4:=zd9 (recT l) id nm
 refine enx [.tmp 6,.tmp 7] Tryz.func168 fun X w0=>?_
 repeat'(first|(refine spl ?_ ?_<;>(intro hb;refine ne ?_))|(refine zl hR ?_;clear hR)|refine s1 ?_|exact True.intro|refine rdb [] ?_|refine cal (Yy _ hl2) ?_|refine cal (zkp (recT l) id nm hs he hl3) ?_|refine cal (zcR _ hl2) ?_|refine cal (ze6 _ _ _ hl2 (by omega)) ?_|(refine s2 ?_;try with_reducible intro R hR)|fail)
 (all_goals(repeat(first|clear hR|clear hRA|clear hRn|clear hRr|clear hRe|clear hRL)))
 all_goals grind[zdt,zoi]
end Go.Proofs.YtbcbnfiedgnfpaaGreat
