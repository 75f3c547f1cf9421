import Derived.Test.YtbcbnfiedgnfpaaGreatZ09
import Derived.Test.YtbcbnfiedgnfpaaGreatZ12
import Derived.Test.YtbcbnfiedgnfpaaGreatZ13
import Derived.Test.YtbcbnfiedgnfpaaGreatZ08
set_option linter.unusedSimpArgs false
set_option linter.unusedVariables false
set_option maxRecDepth 100000
set_option maxHeartbeats 2000000
namespace Go.Proofs.YtbcbnfiedgnfpaaGreat
open Go.Dl
attribute [local irreducible] DW yE zY zA zu zky
attribute [local push_cast] zZ qF qC zN zM zD zE qH qE qz Go.Dl.qY yT qy List.mem_cons List.not_mem_nil or_false forall_eq false_implies implies_true
structure Tt where
 c:Ch
 has:Bool
 inp:Int
 mn:Ex
 mx:Ex
abbrev zwl:Tt:=⟨zdf,false,0,noEx,noEx⟩
def QO (x:Tt):List F:=[eS x.c.nm,eI x.c.ep,eI x.c.ma,eB x.c.al,eI x.c.kd,eI x.c.sc,eB x.has,eI x.inp,eB x.mn.has,eI x.mn.val,eI x.mn.org,eI x.mn.age,eB x.mx.has,eI x.mx.val,eI x.mx.org,eI x.mx.age]
abbrev cTt (x:Tt):List C:=[.f (eS x.c.nm),.f (eI x.c.ep),.f (eI x.c.ma),.f (eB x.c.al),.f (eI x.c.kd),.f (eI x.c.sc),.f (eB x.has),.f (eI x.inp),.f (eB x.mn.has),.f (eI x.mn.val),.f (eI x.mn.org),.f (eI x.mn.age),.f (eB x.mx.has),.f (eI x.mx.val),.f (eI x.mx.org),.f (eI x.mx.age)]
attribute [push_cast] QO
attribute [simp] QO
abbrev gT (x:Tt):V:=.agg (cTt x)
abbrev j8 (l:List Tt):V:=.c (.f (.l 16 (l.map QO)))
def Jr (n:ByteArray) (x:Tt):Bool:=(x.c.nm.toList==n.toList)&&x.c.al
def J3 (n:ByteArray):List Tt→Int
 |[]=>-1
 |x::l=>if Jr n x then 0 else if J3 n l<0 then -1 else J3 n l+1
theorem zo3 (n:ByteArray):J3 n []= -1:=rfl
theorem Y5 (n:ByteArray) (x:Tt) (l:List Tt):J3 n (x::l)=if Jr n x then 0 else if J3 n l<0 then -1 else J3 n l+1:=rfl
theorem zdj (n:ByteArray): ∀l:List Tt,-1≤J3 n l
 |[]=>by simp[J3]
 |x::l=>by have:=zdj n l;rw[Y5];grind
theorem zkq (n:ByteArray) (l:List Tt):upZ 0 (J3 n l)=J3 n l:=by have:=zdj n l;unfold upZ;grind
def findT (n:ByteArray):List Tt→Tt×Bool
 |[]=>(zwl,false)
 |x::l=>if Jr n x then(x,true)else findT n l
theorem jG (n:ByteArray): ∀l:List Tt,(J3 n l= -1∧findT n l=(zwl,false))∨∃(k:Nat) (hk:k<l.length),J3 n l=k∧findT n l=(l[k],true)
 |[]=>.inl ⟨rfl,rfl⟩
 | x::l=>by
  rw[Y5,findT]
  cases hh:Jr n x
  ·rcases jG n l with⟨h1,h2⟩|⟨k,hk,h1,h2⟩
   ·left;rw[h1,h2];simp
   ·right
    refine⟨k+1,by simpa using hk,?_,?_⟩
    ·rw[h1,if_neg (by simp),if_neg (by omega)];omega
    ·rw[h2];simp
  ·right;exact⟨0,by simp,by simp,by simp⟩
def plX (r:Int):Int×Bool:=(if r<0 then 0 else r,decide (0≤r))
theorem zim (l:List Tt) (n:ByteArray) (hl:l.length≤1048576):zu Tryz.prog 147 [j8 l,gS n] (rIB (plX (J3 n l))):=by
 refine enx [.tmp 4,.tmp 5] Tryz.func147 fun X w0=>?_
 repeat'(first|(refine spl ?_ ?_<;>(intro hb;refine ne ?_))|(refine zl hR ?_;clear hR)|refine s1 ?_|exact True.intro|((with_reducible refine zW ?_);refine rgx (ι:=Unit) (l.length) (fun k _=>St.ofA [(1,gS n),(8,j8 l),(9,gI l.length),(10,gI k)] [] []) (fun k _=>J3 n l=upZ k (J3 n (l.drop k))) () ?_ (fun k x hJ hk=>?_) (fun x hJ=>?_))|refine rnx (()) ?_|(refine s2 ?_;try with_reducible intro R hR)|fail)
 (all_goals(repeat(first|clear hR|clear hRA|clear hRn|clear hRr|clear hRe|clear hRL)))
 all_goals try simp only[List.drop_zero,zkq]
 all_goals grind[zo3,Y5,zdj,Jr,upZ,zP,plX]
theorem zcS (l:List Tt) (n:ByteArray) (hl:l.length≤1048576):zu Tryz.prog 120 [j8 l,gS n] (gI (J3 n l)):=by
 refine enx [.tmp 4] Tryz.func120 fun X w0=>?_
 repeat'(first|(refine spl ?_ ?_<;>(intro hb;refine ne ?_))|(refine zl hR ?_;clear hR)|refine s1 ?_|exact True.intro|((with_reducible refine zO ?_);refine frx (ι:=Unit) (l.length) (fun k _=>St.ofA [(0,j8 l),(1,gS n),(5,gI k)] [] []) (fun k _=>J3 n l=upZ k (J3 n (l.drop k))) () ?_ (fun k x hJ hk R hR=>?_))|refine fnx (()) ?_ ?_|(refine s2 ?_;try with_reducible intro R hR)|fail)
 (all_goals(repeat(first|clear hR|clear hRA|clear hRn|clear hRr|clear hRe|clear hRL)))
 all_goals try simp only[List.drop_zero,zkq]
 all_goals grind[zo3,Y5,zdj,Jr,upZ,zP]
theorem zdC {l:List Tt} {n:ByteArray} (hl:l.length≤1048576) (h:J3 n l= -1):zu Tryz.prog 147 [j8 l,gS n] (rIB (0,false)):=by
 have:=zim l n hl;rw[h]at this;exact this
theorem QW {l:List Tt} {n:ByteArray} (hl:l.length≤1048576) {k:Nat} (h:J3 n l=k):zu Tryz.prog 147 [j8 l,gS n] (rIB (k,true)):=by
 have:=zim l n hl
 rw[h]at this
 simpa[plX,show¬((k:Int)<0)by omega]using this
theorem zbM {l:List Tt} {n:ByteArray} (hl:l.length≤1048576) (h:J3 n l= -1):zu Tryz.prog 120 [j8 l,gS n] (gI (-1)):=by
 have:=zcS l n hl;rw[h]at this;exact this
theorem Z9 {l:List Tt} {n:ByteArray} (hl:l.length≤1048576) {k:Nat} (h:J3 n l=k):zu Tryz.prog 120 [j8 l,gS n] (gI k):=by
 have:=zcS l n hl;rw[h]at this;exact this
abbrev rTB (x:Tt×Bool):V:=.tup [(true,cTt x.1),(false,[.f (eB x.2)])]
theorem zch (l:List Tt) (n:ByteArray) (hl:l.length≤1048576):zu Tryz.prog 88 [j8 l,gS n] (rTB (findT n l)):=by
 rcases jG n l with⟨h1,h2⟩|⟨k,hk,h1,h2⟩<;>rw[h2]
 ·refine enx [.cell 4 101,.tmp 5] Tryz.func88 fun X w0=>?_
  repeat'(first|(refine spl ?_ ?_<;>(intro hb;refine ne ?_))|(refine zl hR ?_;clear hR)|refine s1 ?_|exact True.intro|refine cal (zdC hl h1) ?_|(refine s2 ?_;try with_reducible intro R hR)|fail)
  all_goals(refine gz ?_;grind[])
 ·refine enx [.cell 4 101,.tmp 5] Tryz.func88 fun X w0=>?_
  repeat'(first|(refine spl ?_ ?_<;>(intro hb;refine ne ?_))|(refine zl hR ?_;clear hR)|refine s1 ?_|exact True.intro|refine cal (QW hl h1) ?_|(refine s2 ?_;try with_reducible intro R hR)|fail)
  all_goals(refine gz ?_;grind[])
theorem jf (l:List Tt) (n:ByteArray) (hl:l.length≤1048576):zu Tryz.prog 53 [j8 l,gS n] (rTB (findT n l)):=by
 rcases jG n l with⟨h1,h2⟩|⟨k,hk,h1,h2⟩<;>rw[h2]
 ·refine enx [.cell 4 101,.tmp 5] Tryz.func53 fun X w0=>?_
  repeat'(first|(refine spl ?_ ?_<;>(intro hb;refine ne ?_))|(refine zl hR ?_;clear hR)|refine s1 ?_|exact True.intro|refine cal (zbM hl h1) ?_|(refine s2 ?_;try with_reducible intro R hR)|fail)
  all_goals(refine gz ?_;grind[])
 ·refine enx [.cell 4 101,.tmp 5] Tryz.func53 fun X w0=>?_
  repeat'(first|(refine spl ?_ ?_<;>(intro hb;refine ne ?_))|(refine zl hR ?_;clear hR)|refine s1 ?_|exact True.intro|refine cal (Z9 hl h1) ?_|refine rdb [] ?_|refine rex [] ?_|(refine s2 ?_;try with_reducible intro R hR)|fail)
  all_goals(refine gz ?_;grind[])
def JL (l:List Tt) (c:Ch):Bool:=(findT c.nm l).2&&c.al&&decide ((findT c.nm l).1.c.ep=c.ep)&&decide ((findT c.nm l).1.c.ma=c.ma)
theorem zw3 (l:List Tt) (c:Ch) (hl:l.length≤1048576):zu Tryz.prog 275 [j8 l,gC c] (gB (JL l c)):=by
 refine enx [.tmp 4] Tryz.func275 fun X w0=>?_
 repeat'(first|(refine spl ?_ ?_<;>(intro hb;refine ne ?_))|(refine zl hR ?_;clear hR)|refine s1 ?_|exact True.intro|refine cal (zch _ _ hl) ?_|(refine s2 ?_;try with_reducible intro R hR)|fail)
 all_goals(refine gz ?_;grind[JL])
theorem Q5 (l:List Tt) (c:Ch) (hl:l.length≤1048576):zu Tryz.prog 347 [j8 l,gC c] (gB (JL l c)):=by
 refine enx [.tmp 4] Tryz.func347 fun X w0=>?_
 repeat'(first|(refine spl ?_ ?_<;>(intro hb;refine ne ?_))|(refine zl hR ?_;clear hR)|refine s1 ?_|exact True.intro|refine cal (jf _ _ hl) ?_|(refine s2 ?_;try with_reducible intro R hR)|fail)
 all_goals(refine gz ?_;grind[JL])
def QQ (k:Int):Bool:=decide (1≤k)&&decide (k≤3)
theorem zdG (k:Int):zu Tryz.prog 89 [gI k] (gB (QQ k)):=by
 refine enx [.tmp 2] Tryz.func89 fun X w0=>?_
 repeat'(first|(refine spl ?_ ?_<;>(intro hb;refine ne ?_))|(refine zl hR ?_;clear hR)|refine s1 ?_|exact True.intro|fail|(refine s2 ?_;try with_reducible intro R hR)|fail)
 all_goals(refine gz ?_;grind[QQ])
theorem JH (k:Int):zu Tryz.prog 54 [gI k] (gB (QQ k)):=by
 refine enx [.tmp 2] Tryz.func54 fun X w0=>?_
 repeat'(first|(refine spl ?_ ?_<;>(intro hb;refine ne ?_))|(refine zl hR ?_;clear hR)|refine s1 ?_|exact True.intro|fail|(refine s2 ?_;try with_reducible intro R hR)|fail)
 all_goals(refine gz ?_;grind[QQ])
abbrev recT (l:List Tt):List Ch:=l.map (·.c)
theorem Yy (l:List Tt) (hl:l.length≤1048576):zu Tryz.prog 143 [j8 l] (gCs (recT l)):=by
 refine enx [.tmp 2] Tryz.func143 fun X w0=>?_
 repeat'(first|(refine spl ?_ ?_<;>(intro hb;refine ne ?_))|(refine zl hR ?_;clear hR)|refine s1 ?_|exact True.intro|((with_reducible refine zW ?_);refine zgC 3 90 99 6 ?_;refine rgx (ι:=List Ch×Nat) (l.length) (fun k x=>St.ofA [(3,.c (.o 90)),(6,j8 l),(7,gI l.length),(8,gI k)] [] [(90,x.2,99,6,x.1.map Ys)]) (fun k x=>(recT l).take k=x.1∧x.1.length=k) ([],90) ?_ (fun k x hJ hk=>?_) (fun x hJ=>?_))|refine rnx ((x.1++[l[k].c],16)) ?_|(refine s2 ?_;try with_reducible intro R hR)|fail)
 all_goals(refine gz ?_;grind[qJ,Ys])
theorem QJ (l:List Tt) (hl:l.length≤1048576):zu Tryz.prog 117 [j8 l] (gCs (recT l)):=by
 refine enx [.tmp 2] Tryz.func117 fun X w0=>?_
 repeat'(first|(refine spl ?_ ?_<;>(intro hb;refine ne ?_))|(refine zl hR ?_;clear hR)|refine s1 ?_|exact True.intro|((with_reducible refine zO ?_);refine zgC 3 90 99 6 ?_;refine frx (ι:=List Ch×Nat) (l.length) (fun k x=>St.ofA [(0,j8 l),(3,.c (.o 90)),(4,gI k)] [] [(90,x.2,99,6,x.1.map Ys)]) (fun k x=>(recT l).take k=x.1∧x.1.length=k) ([],90) ?_ (fun k x hJ hk R hR=>?_))|refine fnx ((x.1++[l[k].c],17)) ?_ ?_|refine fnx ((x.1++[l[k].c],18)) ?_ ?_|refine fnx ((x.1++[l[k].c],19)) ?_ ?_|(refine s2 ?_;try with_reducible intro R hR)|fail)
 all_goals(refine gz ?_;grind[qJ,Ys])
theorem zrA (l:List Tt) (hl:l.length≤1048576):zA Tryz.prog 192 [j8 l] [] [] (.c (.o 0)) [] [(0,101,16,l.map QO)]:=by
 refine emx [.tmp 2] Tryz.func192 fun XX X G w0=>?_
 repeat'(first|(refine spl ?_ ?_<;>(intro hb;refine ne ?_))|(refine zl hR ?_;clear hR)|refine s1 ?_|exact True.intro|(refine jU (by rfl) hT zuK (by rfl) (by rfl) (fun c hc=>?_);cases c<;>try simp only[push_cast,seval, *])|(refine j7 (by rfl) hT zuK (by rfl) (by rfl) (by rfl) ?_;simp only[push_cast,seval, *])|(refine Jo 2 9 101 16 (by rfl) (by rfl) ?_)|(refine s2 ?_;try with_reducible intro R hR)|fail)
 ·exact fmx [(0,7)]
 ·exact fmx [(0,9)]
theorem ztS (l:List Tt) (hl:l.length≤1048576):zu Tryz.prog 192 [j8 l] (j8 l):=by
 refine enx [.tmp 2] Tryz.func192 fun X w0=>?_
 repeat'(first|(refine spl ?_ ?_<;>(intro hb;refine ne ?_))|(refine zl hR ?_;clear hR)|refine s1 ?_|exact True.intro|(refine jU (by rfl) hT zuK (by rfl) (by rfl) (fun c hc=>?_);cases c<;>try simp only[push_cast,seval, *])|(refine j7 (by rfl) hT zuK (by rfl) (by rfl) (by rfl) ?_;simp only[push_cast,seval, *])|(refine s2 ?_;try with_reducible intro R hR)|fail)
 all_goals(refine gz ?_;grind[])
theorem zfq (l:List Ch) (hl:l.length≤1048576):zu Tryz.prog 211 [gCs l] (gCs l):=by
 refine enx [.tmp 2] Tryz.func211 fun X w0=>?_
 repeat'(first|(refine spl ?_ ?_<;>(intro hb;refine ne ?_))|(refine zl hR ?_;clear hR)|refine s1 ?_|exact True.intro|(refine jU (by rfl) hT zsX (by rfl) (by rfl) (fun c hc=>?_);cases c<;>try simp only[push_cast,seval, *])|(refine j7 (by rfl) hT zsX (by rfl) (by rfl) (by rfl) ?_;simp only[push_cast,seval, *])|(refine s2 ?_;try with_reducible intro R hR)|fail)
 all_goals(refine gz ?_;grind[])
theorem zt2 (l:List Sn) (hl:l.length≤1048576):zu Tryz.prog 123 [QN l] (QN l):=by
 refine enx [.tmp 2] Tryz.func123 fun X w0=>?_
 repeat'(first|(refine spl ?_ ?_<;>(intro hb;refine ne ?_))|(refine zl hR ?_;clear hR)|refine s1 ?_|exact True.intro|(refine jU (by rfl) hT ztX (by rfl) (by rfl) (fun c hc=>?_);cases c<;>try simp only[push_cast,seval, *])|(refine j7 (by rfl) hT ztX (by rfl) (by rfl) (by rfl) ?_;simp only[push_cast,seval, *])|(refine s2 ?_;try with_reducible intro R hR)|fail)
 all_goals(refine gz ?_;grind[])
theorem zcR (l:List Tt) (hl:l.length≤1048576):zu Tryz.prog 125 [j8 l] (j8 l):=by
 refine enx [.tmp 2] Tryz.func125 fun X w0=>?_
 repeat'(first|(refine spl ?_ ?_<;>(intro hb;refine ne ?_))|(refine zl hR ?_;clear hR)|refine s1 ?_|exact True.intro|refine cal (ztS _ hl) ?_|(refine s2 ?_;try with_reducible intro R hR)|fail)
theorem Qt (l:List Tt) (hl:l.length≤1048576):zA Tryz.prog 125 [j8 l] [] [] (.c (.o 0)) [] [(0,101,16,l.map QO)]:=by
 refine emx [.tmp 2] Tryz.func125 fun XX X G w0=>?_
 repeat'(first|(refine spl ?_ ?_<;>(intro hb;refine ne ?_))|(refine zl hR ?_;clear hR)|refine s1 ?_|exact True.intro|refine cM [] [(0,7)] (zrA _ hl) ?_|(refine s2 ?_;try with_reducible intro R hR)|fail)
 exact fmx [(0,7)]
theorem YI (l:List Tt) (hl:l.length≤1048576):zu Tryz.prog 95 [j8 l] (j8 l):=by
 refine enx [.tmp 2] Tryz.func95 fun X w0=>?_
 repeat'(first|(refine spl ?_ ?_<;>(intro hb;refine ne ?_))|(refine zl hR ?_;clear hR)|refine s1 ?_|exact True.intro|fail|(refine s2 ?_;try with_reducible intro R hR)|fail)
theorem jd (l:List Tt) (hl:l.length≤1048576):zA Tryz.prog 95 [j8 l] [] [] (.c (.o 0)) [] [(0,101,16,l.map QO)]:=by
 refine emx [.tmp 2] Tryz.func95 fun XX X G w0=>?_
 repeat'(first|(refine spl ?_ ?_<;>(intro hb;refine ne ?_))|(refine zl hR ?_;clear hR)|refine s1 ?_|exact True.intro|exact fmx [(0,6)]|(refine s2 ?_;try with_reducible intro R hR)|fail)
theorem zvy:zep Tryz.prog 99 [some .str,some (.int .i64),some (.int .i64),some .bool,some (.int .i64),some (.int .i64)]:=Jn (ks:=[.str,.int .i64,.int .i64,.bool,.int .i64,.int .i64]) 3 (by decide) (by kernel_rfl) (by kernel_rfl) (by kernel_rfl)
theorem zuq:zep Tryz.prog 101 [some .str,some (.int .i64),some (.int .i64),some .bool,some (.int .i64),some (.int .i64),some .bool,some (.int .i64),some .bool,some (.int .i64),some (.int .i64),some (.int .i64),some .bool,some (.int .i64),some (.int .i64),some (.int .i64)]:=Jn (ks:=[.str,.int .i64,.int .i64,.bool,.int .i64,.int .i64,.bool,.int .i64,.bool,.int .i64,.int .i64,.int .i64,.bool,.int .i64,.int .i64,.int .i64]) 3 (by decide) (by kernel_rfl) (by kernel_rfl) (by kernel_rfl)
attribute [push_cast] zvy zuq
def zvC (x y:Tt):Bool:=x.c.nm==y.c.nm&&(x.c.ep==y.c.ep&&(x.c.ma==y.c.ma&&(x.c.al==y.c.al&&(x.c.kd==y.c.kd&&(x.c.sc==y.c.sc&&(x.has==y.has&&(x.inp==y.inp&&(x.mn.has==y.mn.has&&(x.mn.val==y.mn.val&&(x.mn.org==y.mn.org&&(x.mn.age==y.mn.age&&(x.mx.has==y.mx.has&&(x.mx.val==y.mx.val&&(x.mx.org==y.mx.org&&x.mx.age==y.mx.age))))))))))))))
def zgK:List Tt→List Tt→Bool
 |[],[]=>true
 |x::l,y::m=>zvC x y&&zgK l m
 | _,_=>false
theorem zso:zgK [] []=true:=rfl
theorem zdE (x y:Tt) (l m:List Tt):zgK (x::l) (y::m)=(zvC x y&&zgK l m):=rfl
theorem zmo: ∀(l m:List Tt),l.length≠m.length→zgK l m=false
 |[],[],h=>absurd rfl h
 |[],_::_,_=>rfl
 | _::_,[],_=>rfl
 |x::l,y::m,h=>by rw[zdE,zmo l m (by simpa using h)];simp
theorem zrv (l m:List Tt) (hl:l.length≤1048576):zu Tryz.prog 164 [j8 l,j8 m] (gB (zgK l m)):=by
 refine enx [.tmp 4] Tryz.func164 fun X w0=>?_
 repeat'(first|(refine spl ?_ ?_<;>(intro hb;refine ne ?_))|(refine zl hR ?_;clear hR)|refine s1 ?_|exact True.intro|(have hlm:=zat hb;((with_reducible refine zW ?_);refine rgx (ι:=Unit) (l.length) (fun k _=>St.ofA [(0,j8 l),(1,j8 m),(12,gI l.length),(13,gI k)] [] []) (fun k _=>zgK l m=zgK (l.drop k) (m.drop k)) () ?_ (fun k x hJ hk=>?_) (fun x hJ=>?_));rotate_left;have hkm:k<m.length:=(by omega))|refine rdb [] ?_|refine rnx (()) ?_|(refine s2 ?_;try with_reducible intro R hR)|fail)
 all_goals(refine gz ?_;grind[zso,zdE,zmo,zvC,zP])
theorem zrw (l m:List Tt) (hl:l.length≤1048576):zu Tryz.prog 93 [j8 l,j8 m] (gB (zgK l m)):=by
 refine enx [.tmp 4] Tryz.func93 fun X w0=>?_
 repeat'(first|(refine spl ?_ ?_<;>(intro hb;refine ne ?_))|(refine zl hR ?_;clear hR)|refine s1 ?_|exact True.intro|refine cal (zrv _ _ hl) ?_|(refine s2 ?_;try with_reducible intro R hR)|fail)
 all_goals(refine gz ?_;grind[])
theorem zke (l m:List Tt) (hl:l.length≤1048576):zu Tryz.prog 64 [j8 l,j8 m] (gB (zgK l m)):=by
 refine enx [.tmp 4] Tryz.func64 fun X w0=>?_
 repeat'(first|(refine spl ?_ ?_<;>(intro hb;refine ne ?_))|(refine zl hR ?_;clear hR)|refine s1 ?_|exact True.intro|(have hlm:=zat hb;((with_reducible refine zO ?_);refine frx (ι:=Unit) (l.length) (fun k _=>St.ofA [(0,j8 l),(1,j8 m),(5,gI k)] [] []) (fun k _=>zgK l m=zgK (l.drop k) (m.drop k)) () ?_ (fun k x hJ hk R hR=>?_)))|(have hkm:k<m.length:=(by omega);refine rdb [] ?_)|refine fnx (()) ?_ ?_|(refine s2 ?_;try with_reducible intro R hR)|fail)
 all_goals(refine gz ?_;grind[zso,zdE,zmo,zvC,zP])
theorem zsK (l m:List Sn) (hl:l.length≤1048576):zu Tryz.prog 91 [QN l,QN m] (gB (zgM l m)):=by
 refine enx [.tmp 4] Tryz.func91 fun X w0=>?_
 repeat'(first|(refine spl ?_ ?_<;>(intro hb;refine ne ?_))|(refine zl hR ?_;clear hR)|refine s1 ?_|exact True.intro|(have hlm:=zat hb;((with_reducible refine zW ?_);refine rgx (ι:=Unit) (l.length) (fun k _=>St.ofA [(0,QN l),(1,QN m),(12,gI l.length),(13,gI k)] [] []) (fun k _=>zgM l m=zgM (l.drop k) (m.drop k)) () ?_ (fun k x hJ hk=>?_) (fun x hJ=>?_));rotate_left;have hkm:k<m.length:=(by omega))|refine rdb [] ?_|refine rnx (()) ?_|(refine s2 ?_;try with_reducible intro R hR)|fail)
 all_goals(refine gz ?_;grind[zs9,zdo,zkN,zwR,zP])
def zgO:List Int→List Int→Bool
 |[],[]=>true
 |x::l,y::m=>decide (x=y)&&zgO l m
 | _,_=>false
theorem zs2:zgO [] []=true:=rfl
theorem zdB (x y:Int) (l m:List Int):zgO (x::l) (y::m)=(decide (x=y)&&zgO l m):=rfl
theorem zkl: ∀(l m:List Int),l.length≠m.length→zgO l m=false
 |[],[],h=>absurd rfl h
 |[],_::_,_=>rfl
 | _::_,[],_=>rfl
 |x::l,y::m,h=>by rw[zdB,zkl l m (by simpa using h)];simp
theorem zrs (l m:List Int) (hl:l.length≤1048576):zu Tryz.prog 90 [gZ l,gZ m] (gB (zgO l m)):=by
 refine enx [.tmp 4] Tryz.func90 fun X w0=>?_
 repeat'(first|(refine spl ?_ ?_<;>(intro hb;refine ne ?_))|(refine zl hR ?_;clear hR)|refine s1 ?_|exact True.intro|(have hlm:=zat hb;((with_reducible refine zW ?_);refine rgx (ι:=Unit) (l.length) (fun k _=>St.ofA [(0,gZ l),(1,gZ m),(12,gI l.length),(13,gI k)] [] []) (fun k _=>zgO l m=zgO (l.drop k) (m.drop k)) () ?_ (fun k x hJ hk=>?_) (fun x hJ=>?_));rotate_left;have hkm:k<m.length:=(by omega))|refine rdb [] ?_|refine rnx (()) ?_|(refine s2 ?_;try with_reducible intro R hR)|fail)
 all_goals(refine gz ?_;grind[zs2,zdB,zkl,zP])
theorem zoa (l m:List Int) (hl:l.length≤1048576):zu Tryz.prog 61 [gZ l,gZ m] (gB (zgO l m)):=by
 refine enx [.tmp 4] Tryz.func61 fun X w0=>?_
 repeat'(first|(refine spl ?_ ?_<;>(intro hb;refine ne ?_))|(refine zl hR ?_;clear hR)|refine s1 ?_|exact True.intro|(have hlm:=zat hb;((with_reducible refine zO ?_);refine frx (ι:=Unit) (l.length) (fun k _=>St.ofA [(0,gZ l),(1,gZ m),(5,gI k)] [] []) (fun k _=>zgO l m=zgO (l.drop k) (m.drop k)) () ?_ (fun k x hJ hk R hR=>?_)))|(have hkm:k<m.length:=(by omega);refine rdb [] ?_)|refine fnx (()) ?_ ?_|(refine s2 ?_;try with_reducible intro R hR)|fail)
 all_goals(refine gz ?_;grind[zs2,zdB,zkl,zP])
def JV:Option ByteArray→List Ch→Bool
 | _,[]=>true
 |o,x::l=>jC x&&(match o with|none=>true|some q=>Op.bytesLess q.toList x.nm.toList)&&JV (some x.nm) l
def Z5 (l:List Ch):Bool:=decide (l.length≤8)&&JV none l
def zfU (l:List Ch) (k:Nat):Option ByteArray:=(l.take k).getLast?.map (·.nm)
theorem zfL (l:List Ch):zfU l 0=none:=rfl
theorem Jt {l:List Ch} {k:Nat} (h:k<l.length):zfU l (k+1)=some l[k].nm:=by rw[zfU,qJ h,List.getLast?_concat];rfl
theorem zk1 (l:List Ch) (hl:l.length≤1048576) (hn: ∀x∈l,x.nm.size≤1048576):zu Tryz.prog 116 [gCs l] (gB (Z5 l)):=by
 refine enx [.tmp 2] Tryz.func116 fun X w0=>?_
 repeat'(first|(refine spl ?_ ?_<;>(intro hb;refine ne ?_))|(refine zl hR ?_;clear hR)|refine s1 ?_|exact True.intro|((with_reducible refine zO ?_);refine frx (ι:=Unit) (l.length) (fun k _=>St.ofA [(0,gCs l),(3,gI k)] [] []) (fun k _=>JV none l=JV (zfU l k) (l.drop k)∧k≤8) () ?_ (fun k x hJ hk R hR=>?_))|(have hkl:k<l.length:=hb;have hnk:=hn _ (List.getElem_mem hkl);rcases Nat.eq_zero_or_pos k with rfl|hk0;all_goals(first|(obtain⟨j,hj⟩: ∃j,j+1=k:=⟨k - 1,by omega⟩;have hp:zfU l k=some (l[j]'(by omega)).nm:=(by subst hj;exact Jt _);have hjl:j<l.length:=(by omega);have e1:IntKind.i64.wrap ((k:Int) - 1)=j:=(by rw[IntKind.wrap_i64];omega);refine rdb [] ?_)|refine rdb [] ?_))|refine cad (zfn l[k].nm l[k].ep l[k].ma l[k].al l[k].kd l[k].sc (by omega)) ?_|refine cad (zfn l[0].nm l[0].ep l[0].ma l[0].al l[0].kd l[0].sc (by omega)) ?_|refine fnx (()) ?_ ?_|(refine s2 ?_;try with_reducible intro R hR)|fail)
 all_goals(refine gz ?_;grind[Z5,JV,zfL,Jt,zP])
theorem zja (l:List Ch) (n:ByteArray) (e m:Int) (a:Bool) (k s:Int) (hl:l.length≤1000000):zu Tryz.prog 305 [gCs l,.agg [.f (eS n),.f (eI e),.f (eI m),.f (eB a),.f (eI k),.f (eI s)]] (gCs (jX false l ⟨n,e,m,a,k,s⟩)):=zwJ l n e m a k s hl
abbrev rCI (x:List Ch×Int):V:=.tup [(false,[.f (.l 6 (x.1.map Ys))]),(false,[.f (eI x.2)])]
def yx (l:List Ch) (c:Ch):List Ch×Int:=
 let o:=z5 l c.nm
 if !o.2&&decide (8≤l.length)then(l,5)else if !o.2 then(jX false l c,4)else if newR c.ep c.ma o.1.ep o.1.ma then(jX false l c,3)else if newR o.1.ep o.1.ma c.ep c.ma then(l,1)else(l,2)
theorem ziw (l:List Ch) (c:Ch) (hl:l.length≤1000000):zu Tryz.prog 365 [gCs l,gC c] (rCI (yx l c)):=by
 have hl2:l.length*64≤140737488355328:=by omega
 refine enx [.tmp 4,.tmp 5] Tryz.func365 fun X w0=>?_
 repeat'(first|(refine spl ?_ ?_<;>(intro hb;refine ne ?_))|(refine zl hR ?_;clear hR)|refine s1 ?_|exact True.intro|refine cal (zak _ _ (by omega)) ?_|refine cal (zbT _ hl2) ?_|refine cal (zja _ _ _ _ _ _ _ hl) ?_|refine cal (zcz c.nm c.ep c.ma c.al c.kd c.sc (z5 l c.nm).1.nm (z5 l c.nm).1.ep (z5 l c.nm).1.ma (z5 l c.nm).1.al (z5 l c.nm).1.kd (z5 l c.nm).1.sc) ?_|refine cal (zcz (z5 l c.nm).1.nm (z5 l c.nm).1.ep (z5 l c.nm).1.ma (z5 l c.nm).1.al (z5 l c.nm).1.kd (z5 l c.nm).1.sc c.nm c.ep c.ma c.al c.kd c.sc) ?_|(refine s2 ?_;try with_reducible intro R hR)|fail)
 all_goals(refine gz ?_;grind[yx])
def yD (l:List Ch) (mk:Int) (nm:ByteArray) (kd sc:Int):List Ch×Int:=
 let o:=z5 l nm
 if !jr nm then(l,45)else if !zcQ kd then(l,46)else if !JF kd sc then(l,47)else if o.2&&o.1.al then(l,42)else if !o.2&&decide (8≤l.length)then(l,48)
 else if decide (1099511627776≤o.1.ep)then(l,33)else(jX false l ⟨nm,wr (o.1.ep+1),mk,true,kd,sc⟩,0)
theorem zgH (l:List Ch) (mk:Int) (nm:ByteArray) (kd sc:Int) (hl:l.length≤1000000) (hn:nm.size≤1048576):zu Tryz.prog 239 [gCs l,gI mk,gS nm,gI kd,gI sc] (rCI (yD l mk nm kd sc)):=by
 have hl2:l.length*64≤140737488355328:=by omega
 refine enx [.tmp 10,.tmp 11] Tryz.func239 fun X w0=>?_
 repeat'(first|(refine spl ?_ ?_<;>(intro hb;refine ne ?_))|(refine zl hR ?_;clear hR)|refine s1 ?_|exact True.intro|refine cal (zak _ _ (by omega)) ?_|refine cal (zbT _ hl2) ?_|refine cal (zja _ _ _ _ _ _ _ hl) ?_|refine cal (zaf _ (by omega)) ?_|refine cal (zbt _ _) ?_|(refine s2 ?_;try with_reducible intro R hR)|fail)
 all_goals(refine gz ?_;grind[yD,zcQ])
def yF (l:List Ch) (mk:Int) (nm:ByteArray):List Ch×Int:=
 let o:=z5 l nm
 if !o.2|| !o.1.al then(l,44)else if decide (1099511627776≤o.1.ep)then(l,33)else(jX false l ⟨o.1.nm,wr (o.1.ep+1),mk,false,o.1.kd,o.1.sc⟩,0)
theorem zgR (l:List Ch) (mk:Int) (nm:ByteArray) (hl:l.length≤1000000):zu Tryz.prog 244 [gCs l,gI mk,gS nm] (rCI (yF l mk nm)):=by
 have hl2:l.length*64≤140737488355328:=by omega
 refine enx [.tmp 6,.tmp 7] Tryz.func244 fun X w0=>?_
 repeat'(first|(refine spl ?_ ?_<;>(intro hb;refine ne ?_))|(refine zl hR ?_;clear hR)|refine s1 ?_|exact True.intro|refine cal (zak _ _ (by omega)) ?_|refine cal (zbT _ hl2) ?_|refine cal (zja _ _ _ _ _ _ _ hl) ?_|(refine s2 ?_;try with_reducible intro R hR)|fail)
 all_goals(refine gz ?_;grind[yF])
def zel (x y:Ch):Bool:=x.nm==y.nm&&(x.ep==y.ep&&(x.ma==y.ma&&(x.al==y.al&&(x.kd==y.kd&&x.sc==y.sc))))
def zbA (c:Ch):Tt:=⟨c,false,0,noEx,noEx⟩
attribute [simp] zbA
def pkB (c:Ch):List Tt→Tt→Tt
 |[],s=>s
 |x::l,s=>pkB c l (if zel x.c c then x else s)
theorem zxP (c:Ch) (s:Tt):pkB c [] s=s:=rfl
theorem zap (c:Ch) (x:Tt) (l:List Tt) (s:Tt):pkB c (x::l) s=pkB c l (if zel x.c c then x else s):=rfl
def JM (l:List Tt) (r:List Ch):List Tt:=r.map fun c=>pkB c l (zbA c)
theorem zvF {l:List Tt} {r:List Ch} {k:Nat} (h:k<r.length):(JM l r).take (k+1)=(JM l r).take k++[pkB r[k] l (zbA r[k])]:=by
 rw[qJ (by simpa[JM]using h)];simp[JM]
theorem zkP (l:List Tt) (r:List Ch):(JM l r).length=r.length:=by simp[JM]
theorem zbu (l:List Tt) (r:List Ch) (hl:l.length≤1048576) (hr:r.length≤1048576):zu Tryz.prog 240 [j8 l,gCs r] (j8 (JM l r)):=by
 refine enx [.tmp 4] Tryz.func240 fun X w0=>?_
 repeat'(first|(refine spl ?_ ?_<;>(intro hb;refine ne ?_))|(refine zl hR ?_;clear hR)|refine s1 ?_|exact True.intro|((with_reducible refine zO ?_);refine zgC 5 90 101 16 ?_;refine frx (ι:=List Tt×Nat) (r.length) (fun k x=>St.ofA [(0,j8 l),(1,gCs r),(5,.c (.o 90)),(6,gI k)] [] [(90,x.2,101,16,x.1.map QO)]) (fun k x=>(JM l r).take k=x.1∧x.1.length=k) ([],90) ?_ (fun k x hJ hk R hR=>?_))|(have hkr:k<r.length:=hb;((with_reducible refine zO ?_);refine frx (ι:=Tt) (l.length) (fun j s=>St.ofA [(0,j8 l),(1,gCs r),(5,.c (.o 90)),(6,gI k),(7,.loc 7 0),(8,gI j)] [(7,101,cTt s)] [(90,90,101,16,x.1.map QO)]) (fun j s=>pkB r[k] l (zbA r[k])=pkB r[k] (l.drop j) s) (zbA r[k]) ?_ (fun j s hJj hkj R hR=>?_)))|refine rdb [] ?_|refine fnx (l[j]) ?_ ?_|refine fnx (s) ?_ ?_|refine fnx ((x.1++[s],43)) ?_ ?_|(refine s2 ?_;try with_reducible intro R hR)|fail)
 (all_goals(repeat(first|clear hR|clear hRA|clear hRn|clear hRr|clear hRe|clear hRL)))
 all_goals grind[zvF,zkP,zxP,zap,zel,QO,List.take_of_length_le,zP,zbA]
end Go.Proofs.YtbcbnfiedgnfpaaGreat
section
namespace Go.Dl
attribute [simp] W.toV
def zw5 (bn:List Nat) (al:List (Nat×Nat)) (f:Nat→V):List (Nat×V)→Prop
 |[]=>True
 |(t,v)::r=>mvA bn al (f t) v∧zw5 bn al f r
theorem zpT {bn:List Nat} {al:List (Nat×Nat)} {f:Nat→V} (t:Nat): ∀ {l:List (Nat×V)},zw5 bn al f l→lkV t l= .un∨mvA bn al (f t) (lkV t l)
 |[],_=>.inl rfl
 |(k,x)::r,h=>by
  unfold lkV
  by_cases e:t=k
  ·rw[if_pos e,e];exact .inr h.1
  ·rw[if_neg e];exact zpT t h.2
theorem Yl {X:Fr} {S:St} {sl:List (Nat×V)} {bl:List (Nat×TypeId×List C)} {al:AL} (hb:X.B0=[]) (h0:zS al=true) (h1:zw5 (bl.map (·.1)) (al.map fun x=>(x.1,x.2.1)) S.slots sl) (h2:zlp (al.map fun x=>(x.1,x.2.1)) S.blks bl) (h3:zk7 S.arrs al):zY X S (St.ofA sl bl al):=
 fun _ _ E a w hs=>by
  have h:=zjp (sl:=[]) h0 trivial h2 h3 (by rw[hb];rfl) hs
  refine⟨_,h.chg,h.fr,h.sz,fun t=>?_,h.blk,h.inj,h.bl,h.arr,h.al,h.ai,h.bn,h.an,h.il,h.i0,h.i1,h.kp⟩
  show qr w (E.cut bl al) (lkV t sl) _
  rcases zpT t h1 with e|e
  ·rw[e];exact .un
  ·exact zus (E:=E) (E':=E.cut bl al) rfl (fun t b hm hb=>zyk t b hm hb) (fun b a v hm hb=>zx8 h0 b a v hm hb) e (hs.slot t)
attribute [simp] zw5
section
variable {P:Program} {I:Nat→Prop} {J:YJ} {N:Nat} {Q:Exit→Option Nat→St→Prop} {k:Option Nat} {S:St}
def LpY {ι:Type} (R:Option Nat→St→Prop) (kf:ι→Option Nat) (If:ι→St) (Jf lt:ι→Prop):Prop:=∀j S',(∀X:Fr,X.B0=[]→zY X S' (If j))→Jf j→lt j→R (kf j) S'
theorem zBh {ι:Type} {R:Option Nat→St→Prop} {kf:ι→Option Nat} {If:ι→St} {Jf lt:ι→Prop} {k:Option Nat} (h:LpY R kf If Jf lt) (j:ι) (hk:k=kf j) (hw: ∀X:Fr,X.B0=[]→zY X S (If j)) (hJ:Jf j) (hl:lt j):R k S:=hk▸h j S hw hJ hl
theorem zl1 {ι:Type} {c:Code} (hJ:zdR J) (kf:ι→Option Nat) (If:ι→St) (Jf:ι→Prop) (μ:ι→Nat) (i0:ι) (hJ0:Jf i0) (hk0:k=kf i0) (h0: ∀X:Fr,X.B0=[]→zY X S (If i0)) (round: ∀i,Jf i→∀R,LpY R kf If Jf (fun j=>μ j<μ i)→DY P I J N c (Zf R Q) (kf i) (If i)):DY P I J N (.loop c) Q k S:=
 zow (ι:={i // Jf i}) hJ (fun i=>kf i.1) (fun i=>If i.1) (fun i=>μ i.1) ⟨i0,hJ0⟩ hk0 h0 fun i=>round i.1 i.2 _ fun j S' hw hJ hlt=>⟨⟨j,hJ⟩,hlt,rfl,hw⟩
end
end Go.Dl
namespace Go.Proofs.YtbcbnfiedgnfpaaGreat
open Go.Dl
set_option maxRecDepth 100000
set_option maxHeartbeats 2000000
attribute [local irreducible] DW yE zY zA zu zky
attribute [local push_cast] zZ qF qC zN zM zD zE qH qE qz Go.Dl.qY yT qy List.mem_cons List.not_mem_nil or_false forall_eq false_implies implies_true
theorem zhq (l:List Ch) (n:ByteArray) (hl:l.length≤1048576):zu Tryz.prog 207 [gCs l,gS n] (rCB (z5 l n)):=by
 refine enx [.cell 4 99,.tmp 5] Tryz.func207 fun X w0=>?_
 repeat'(first|(refine spl ?_ ?_<;>(intro hb;refine ne ?_))|(refine zl hR ?_;clear hR)|refine s1 ?_|exact True.intro|((with_reducible refine zW ?_);refine rgx (ι:=Unit) (l.length) (fun k _=>St.ofA [(1,gS n),(4,.loc 4 0),(8,gCs l),(9,gI l.length),(10,gI k)] [(4,99,cC zdf)] []) (fun k _=>z5 l n=z5 (l.drop k) n) () ?_ (fun k x hJ hk=>?_) (fun x hJ=>?_))|refine rnx (()) ?_|(refine s2 ?_;try with_reducible intro R hR)|fail)
 all_goals(refine gz ?_;grind[za9,jF,zP])
theorem zkY (c:Ch):zu Tryz.prog 228 [gC c] (gB (jC c)):=by
 refine enx [.tmp 2] Tryz.func228 fun X w0=>?_
 repeat'(first|(refine spl ?_ ?_<;>(intro hb;refine ne ?_))|(refine zl hR ?_;clear hR)|refine s1 ?_|exact True.intro|refine cal (zhJ _) ?_|refine cal (zho _) ?_|refine cal (zd3 _ _) ?_|(refine s2 ?_;try with_reducible intro R hR)|fail)
 all_goals(refine gz ?_;grind[jC,nodeB])
theorem zqH (l:List Ch) (hl:l.length≤1048576):zu Tryz.prog 155 [gCs l] (gB (Z5 l)):=by
 refine enx [.tmp 2] Tryz.func155 fun X w0=>?_
 repeat'(first|(refine spl ?_ ?_<;>(intro hb;refine ne ?_))|(refine zl hR ?_;clear hR)|refine s1 ?_|exact True.intro|(((with_reducible refine zW ?_);refine rgx (ι:=Unit) (l.length) (fun k _=>St.ofA [(0,gCs l),(8,gCs l),(9,gI l.length),(10,gI k)] [] []) (fun k _=>JV none l=JV (zfU l k) (l.drop k)) () ?_ (fun k x hJ hk=>?_) (fun x hJ=>?_));rotate_left;rcases Nat.eq_zero_or_pos k with rfl|hk0;rotate_left;obtain⟨j,hj⟩: ∃j,j+1=k:=⟨k - 1,by omega⟩;have hp:zfU l k=some (l[j]'(by omega)).nm:=(by subst hj;exact Jt _);have hjl:j<l.length:=(by omega);have e1:IntKind.i64.wrap ((k:Int) - 1)=j:=(by rw[IntKind.wrap_i64];omega))|refine rdb [] ?_|refine cad (zkY l[k]) ?_|refine cad (zkY l[0]) ?_|refine rnx (()) ?_|(refine s2 ?_;try with_reducible intro R hR)|fail)
 all_goals(refine gz ?_;grind[Z5,JV,zfL,Jt,zP])
theorem zoq (c:Ch):zu Tryz.prog 282 [gC c] (.agg [.f (eI c.ep),.f (eI c.ma),.f (eS c.nm),.f (eI c.ep),.f (eI c.ma),.f (eB c.al),.f (eI c.kd),.f (eI c.sc)]):=by
 refine enx [.cell 2 297] Tryz.func282 fun X w0=>?_
 repeat'(first|(refine spl ?_ ?_<;>(intro hb;refine ne ?_))|(refine zl hR ?_;clear hR)|refine s1 ?_|exact True.intro|fail|(refine s2 ?_;try with_reducible intro R hR)|fail)
theorem zm4 (a b c d:Int):zu Tryz.prog 283 [.agg [.f (eI a),.f (eI b)],.agg [.f (eI c),.f (eI d)]] (gB (newR a b c d)):=by
 refine enx [.tmp 4] Tryz.func283 fun X w0=>?_
 repeat'(first|(refine spl ?_ ?_<;>(intro hb;refine ne ?_))|(refine zl hR ?_;clear hR)|refine s1 ?_|exact True.intro|fail|(refine s2 ?_;try with_reducible intro R hR)|fail)
 all_goals(refine gz ?_;grind[newR])
def jm:List Ch→Option Ch→List (Option Ch×Option Ch)
 |[],none=>[]
 |[],some c=>[(none,some c)]
 |x::l,none=>(some x,none)::jm l none
 |x::l,some c=>if Op.bytesLess c.nm.toList x.nm.toList then(none,some c)::(some x,none)::jm l none else if c.nm.toList==x.nm.toList then(some x,some c)::jm l none else(some x,none)::jm l (some c)
def zyQ:Option Ch→V
 |none=>.c (.f (.s (.pointer none)))
 |some c=>.rd (Ys c)
abbrev gPr (p:Option Ch×Option Ch):List V:=[zyQ p.1,zyQ p.2]
theorem zyU (c:Ch):zA Tryz.prog 334 [.loc 0 0] [(0,154,[.f (.l 6 [Ys c])])] [] (.tup [(true,cC c),(false,[.f (eB true)])]) [(0,154,[.f (.l 6 [])])] []:=by
 refine emx [.cell 1 99,.tmp 2] Tryz.func334 fun XX X G w0=>?_
 repeat'(first|(refine spl ?_ ?_<;>(intro hb;refine ne ?_))|(refine zl hR ?_;clear hR)|refine s1 ?_|exact True.intro|(exact False.elim hb)|(exact absurd True.intro hb)|refine rdb [] ?_|refine rex [] ?_|(refine s2 ?_;try with_reducible intro R hR)|fail)
 all_goals exact fmx []
theorem zzv:zA Tryz.prog 334 [.loc 0 0] [(0,154,[.f (.l 6 [])])] [] (.tup [(true,cC zdf),(false,[.f (eB false)])]) [(0,154,[.f (.l 6 [])])] []:=by
 refine emx [.cell 1 99,.tmp 2] Tryz.func334 fun XX X G w0=>?_
 repeat'(first|(refine spl ?_ ?_<;>(intro hb;refine ne ?_))|(refine zl hR ?_;clear hR)|refine s1 ?_|exact True.intro|(exact False.elim hb)|(exact absurd True.intro hb)|refine rdb [] ?_|refine rex [] ?_|(refine s2 ?_;try with_reducible intro R hR)|fail)
 all_goals exact fmx []
theorem zwG (l:List Ch) (c:Ch):zu Tryz.prog 281 [gCs l,.c (.f (.l 6 [Ys c]))] (.clo 333 [] [.rd [.l 6 [Ys c]],.rd [.l 6 (l.map Ys)]]):=by
 refine enx [.tmp 4] Tryz.func281 fun X w0=>?_
 repeat'(first|(refine spl ?_ ?_<;>(intro hb;refine ne ?_))|(refine zl hR ?_;clear hR)|refine s1 ?_|exact True.intro|(refine fzx 2 ?_;refine fzx 3 ?_;refine jE ?_)|(refine s2 ?_;try with_reducible intro R hR)|fail)
theorem zlx {α:Type} {l r:List α} {f:α→List V} {n:Nat} {x:α} (h:l.drop n=x::r):elL l f n=some (f x):=(zf7 h).1
theorem zcf {α:Type} {l r:List α} {n:Nat} {x:α} (h:l.drop n=x::r):l.drop (n+1)=r:=by
 have e:l.drop (n+1)=(l.drop n).drop 1:=by rw[List.drop_drop]
 rw[e,h];rfl
theorem zmX {x c:Ch} {l:List Ch} (h:Op.bytesLess c.nm.toList x.nm.toList=true):jm (x::l) (some c)=(none,some c)::jm (x::l) none:=by simp[jm,h]
theorem zmV {x c:Ch} {l:List Ch} (h:Op.bytesLess c.nm.toList x.nm.toList=false) (h2:(c.nm.toList==x.nm.toList)=false):jm (x::l) (some c)=(some x,none)::jm l (some c):=by simp[jm,h];simpa using h2
theorem zm2 {x c:Ch} {l:List Ch} (h:Op.bytesLess c.nm.toList x.nm.toList=false) (h2:(c.nm.toList==x.nm.toList)=true):jm (x::l) (some c)=(some x,some c)::jm l none:=by simp[jm,h];simpa using h2
theorem zbv {x:Ch} {l:List Ch}:jm (x::l) none=(some x,none)::jm l none:=rfl
abbrev pend (p:Bool) (c:Ch):Option Ch:=if p then some c else none
theorem zwX (l:List Ch) (c:Ch) (hl:l.length≤1048576) (M:Nat):Qx Tryz.prog 333 [.rd [.l 6 [Ys c]],.rd [.l 6 (l.map Ys)]] (elL (jm l (some c)) gPr) M:=by
 refine Qh Tryz.func333 rfl (by decide) (by simp[Tryz.ntmps333]) rfl (fun I J yl hJ hY hM=>?_)
 repeat'(first|(refine spl ?_ ?_<;>(intro hb;refine ne ?_))|(refine ZC hR ?_;clear hR)|refine t1 ?_|exact True.intro|((with_reducible first|refine Qj ?_|refine Qk ?_);intro n hn;cases hn)|(refine ziu hJ (fun X hb=>zV (t:=9) rfl rfl (by rw[hb];rfl)) ?_)|(refine ziu hJ (fun X hb=>zV (t:=10) rfl rfl (by rw[hb];rfl)) ?_)|(refine ziu hJ (fun X hb=>zV (t:=11) rfl rfl (by rw[hb];rfl)) ?_)|(rcases y with⟨p,h,n⟩;cases p<;>dsimp only at hqy ⊢)|(obtain⟨hq1,hq2⟩:=hqy;obtain rfl:=hq2 rfl)|(obtain⟨hq1,hq2⟩:=hqy)|(refine zi1 hJ rfl fun X w0 hr hb=>?_;refine cM [(0,4)] [] (zyU c) ?_)|(refine zi1 hJ rfl fun X w0 hr hb=>?_;refine cM [(0,4)] [] (zzv) ?_)|((with_reducible refine Yf ?_);refine zay (ι:=Bool×Ch×Nat) (l.length) (fun _ x=>some x.2.2) (fun k x=>St.ofA [(0,yV yl),(2,.rd [.l 6 (l.map Ys)]),(5,.clo 334 [] [.loc 4 0]),(6,.loc 6 0),(7,gB x.1),(20,gI l.length),(21,gI k)] [(4,154,[.f (.l 6 [])]),(6,99,cC x.2.1)] []) (fun k x=>(jm l (some c)).drop x.2.2=jm (l.drop k) (pend x.1 c)∧(x.1=true→x.2.1=c)) (true,c,0) hJ (by omega) hT (by decide) (fun k x=>⟨by rfl,by rfl⟩) (by rfl) (fun X hb=>(by(refine Yl hb rfl ?_ ?_ ?_<;>simp);done)) ?_ (fun k x hqx hkk=>?_) (fun x hqx=>?_))|(refine zl1 (ι:=Bool×Ch×Nat) hJ (fun y=>some y.2.2) (fun y=>St.ofA [(0,yV yl),(2,.rd [.l 6 (l.map Ys)]),(5,.clo 334 [] [.loc 4 0]),(6,.loc 6 0),(7,gB y.1),(8,gI k),(20,gI l.length),(21,gI k)] [(4,154,[.f (.l 6 [])]),(6,99,cC y.2.1)] []) (fun y=>(jm l (some c)).drop y.2.2=jm (l.drop k) (pend y.1 c)∧(y.1=true→y.2.1=c)) (fun y=>if y.1 then 1 else 0) x hqx rfl (fun X hb=>(by(refine Yl hb rfl ?_ ?_ ?_<;>simp);done)) (fun y hqy RL hRL=>?_))|(refine zl1 (ι:=Bool×Ch×Nat) hJ (fun y=>some y.2.2) (fun y=>St.ofA [(0,yV yl),(5,.clo 334 [] [.loc 4 0]),(6,.loc 6 0),(7,gB y.1)] [(4,154,[.f (.l 6 [])]),(6,99,cC y.2.1)] []) (fun y=>(jm l (some c)).drop y.2.2=jm (l.drop l.length) (pend y.1 c)∧(y.1=true→y.2.1=c)) (fun y=>if y.1 then 1 else 0) x hqx rfl (fun X hb=>(by(refine Yl hb rfl ?_ ?_ ?_<;>simp);done)) (fun y hqy RL hRL=>?_))|(refine zjh hJ 10 [] hT rfl (by decide) (by decide+kernel) (by decide) (by decide+kernel) rfl ?_;simp only[push_cast,seval, *])|(refine zjh hJ 11 [] hT rfl (by decide) (by decide+kernel) (by decide) (by decide+kernel) rfl ?_;simp only[push_cast,seval, *])|refine lat ?_|(rw[if_pos rfl])|(refine qM hY rfl rfl (by rfl) rfl ?_ (by rfl) ?_ ?_;(focus(simp only[push_cast,seval, *];apply zlx (f:=gPr) (x:=(none,some h));rw[hq1,zP hkk];exact zmX hb;done));(all_goals simp only[push_cast,seval, *]))|(refine qM hY rfl rfl (by rfl) rfl ?_ (by rfl) ?_ ?_;(focus(simp only[push_cast,seval, *];apply zlx (f:=gPr) (x:=(some l[k],none));rw[hq1,zP hkk];exact zbv;done));(all_goals simp only[push_cast,seval, *]))|(refine qM hY rfl rfl (by rfl) rfl ?_ (by rfl) ?_ ?_;(focus(simp only[push_cast,seval, *];apply zlx (f:=gPr) (x:=(some l[k],none));rw[hq1,zP hkk];refine zmV ?_ ?_;assumption;simpa using hb;done));(all_goals simp only[push_cast,seval, *]))|(refine qM hY rfl rfl (by rfl) rfl ?_ (by rfl) ?_ ?_;(focus(simp only[push_cast,seval, *];apply zlx (f:=gPr) (x:=(some l[k],some h));rw[hq1,zP hkk];refine zm2 ?_ ?_;assumption;simpa using hb;done));(all_goals simp only[push_cast,seval, *]))|(refine qM hY rfl rfl (by rfl) rfl ?_ (by rfl) ?_ ?_;(focus(simp only[push_cast,seval, *];apply zlx (f:=gPr) (x:=(none,some h));rw[hq1,List.drop_length];rfl;done));(all_goals simp only[push_cast,seval, *]))|(refine zBh (by assumption) ((false,zdf,n+1)) rfl ?_ ?_ ?_;(focus(intro X hb;(refine Yl hb rfl ?_ ?_ ?_<;>simp);done));rotate_left;(focus(first|(simp;done)|omega)))|(refine zn8 ((false,zdf,n+1)) rfl ?_ ?_ ?_;(focus(intro X hb;(refine Yl hb rfl ?_ ?_ ?_<;>simp);done));(focus(simp only[push_cast,seval, *];done)))|(refine zn8 ((false,h,n+1)) rfl ?_ ?_ ?_;(focus(intro X hb;(refine Yl hb rfl ?_ ?_ ?_<;>simp);done));(focus(simp only[push_cast,seval, *];done)))|(refine zn8 ((true,h,n+1)) rfl ?_ ?_ ?_;(focus(intro X hb;(refine Yl hb rfl ?_ ?_ ?_<;>simp);done));(focus(simp only[push_cast,seval, *];done)))|(refine t2 ?_;try with_reducible intro R hR)|fail)
 ·exact⟨rfl,fun _=>rfl⟩
 ·exact⟨zcf (by rw[hq1,zP hkk];exact zbv),fun h=>by cases h⟩
 ·exact⟨zcf (by rw[hq1,zP hkk];exact zmX (by assumption)),fun h=>by cases h⟩
 ·exact⟨zcf (by rw[hq1,zP hkk];exact zmV (by assumption) (by simpa using hb)),fun _=>rfl⟩
 ·rename_i hb1 _ hb2 _
  exact⟨zcf (by rw[hq1,zP hkk];exact zm2 (by assumption) (by simp_all)),fun h=>by cases h⟩
 ·exact zkB (by rw[hq1,List.drop_length];rfl)
 ·exact⟨zcf (by rw[hq1,List.drop_length];rfl),fun h=>by cases h⟩
end Go.Proofs.YtbcbnfiedgnfpaaGreat
end
namespace Go.Proofs.YtbcbnfiedgnfpaaGreat
open Go.Dl
attribute [local irreducible] DW yE zY zA zu zky
attribute [local push_cast] zZ qF qC zN zM zD zE qH qE qz Go.Dl.qY yT qy List.mem_cons List.not_mem_nil or_false forall_eq false_implies implies_true
def zlm (s:List Ch×Int):Option Ch×Option Ch→List Ch×Int
 |(none,some b)=>(s.1++[b],s.2)
 |(some a,none)=>(s.1++[a],s.2)
 |(some a,some b)=>if newR b.ep b.ma a.ep a.ma then(s.1++[b],3)else if newR a.ep a.ma b.ep b.ma then(s.1++[a],1)else(s.1++[a],2)
 |(none,none)=>s
def zfP:List (Option Ch×Option Ch)→List Ch×Int→List Ch×Int
 |[],s=>s
 |p::l,s=>zfP l (zlm s p)
theorem zuE (s:List Ch×Int):zfP [] s=s:=rfl
theorem Q0 (p:Option Ch×Option Ch) (l:List (Option Ch×Option Ch)) (s:List Ch×Int):zfP (p::l) s=zfP l (zlm s p):=rfl
theorem J7: ∀(l:List Ch) (o:Option Ch),∀p∈jm l o,p≠(none,none)
 |[],none,p,h=>by simp[jm]at h
 |[],some c,p,h=>by simp[jm]at h;simp[h]
 |x::l,none,p,h=>by
  rw[zbv]at h
  rcases List.mem_cons.1 h with rfl|h
  ·simp
  ·exact J7 l none p h
 | x::l,some c,p,h=>by
  unfold jm at h
  split at h
  ·rcases List.mem_cons.1 h with rfl|h
   ·simp
   ·rcases List.mem_cons.1 h with rfl|h
    ·simp
    ·exact J7 l none p h
  ·split at h
   ·rcases List.mem_cons.1 h with rfl|h
    ·simp
    ·exact J7 l none p h
   ·rcases List.mem_cons.1 h with rfl|h
    ·simp
    ·exact J7 l (some c) p h
theorem zbS: ∀(l:List Ch),(jm l none).length=l.length
 |[]=>rfl
 |x::l=>by rw[zbv];simp[zbS l]
theorem zoY: ∀(l:List Ch) (o:Option Ch),(jm l o).length≤l.length+1
 |[],none=>by simp[jm]
 |[],some c=>by simp[jm]
 |x::l,none=>by have:=zbS l;rw[zbv];simp;omega
 |x::l,some c=>by
  have h1:=zbS l
  have h2:=zoY l (some c)
  unfold jm
  split
  ·simp;omega
  ·split<;>simp<;>omega
def zv8 (l:List Ch) (c:Ch):List Ch×Int:=
 let r:=zfP (jm l (some c)) ([],4)
 if decide (r.2=4)&&decide (8≤l.length)then(l,5)else r
theorem zlQ (l:List Ch) (c:Ch) (hl:l.length≤1000000):zu Tryz.prog 212 [gCs l,gC c] (rCI (zv8 l c)):=by
 have hl2:l.length≤1048576:=by omega
 have hpl:=zoY l (some c)
 refine enx [.tmp 4,.tmp 5] Tryz.func212 fun X w0=>?_
 repeat'(first|(refine spl ?_ ?_<;>(intro hb;refine ne ?_))|(refine zl hR ?_;clear hR)|refine s1 ?_|exact True.intro|refine cal (zwG l c) ?_|(first|(refine zjx (by assumption) ?_;intro XX I0 w2 RQ hRn hRr hRe)|refine ziM (by assumption) ?_|refine zjJ (by assumption) ?_)|(refine zB (zK 6 0 90 99 6 (by rfl) (by rfl) (by rfl)) ?_;refine Zw (ι:=List Ch×Int×Nat) [(0,gCs l),(6,.loc 6 0),(7,.loc 7 0),(13,.clo 333 [] [.rd [.l 6 [Ys c]],.rd [.l 6 (l.map Ys)]])] (fun _ x=>[(6,154,[.o 90]),(7,3,[.f (eI x.2.1)])]) (fun _ x=>[(90,x.2.2,99,6,x.1.map Ys)]) (fun k x=>zfP (jm l (some c)) ([],4)=zfP ((jm l (some c)).drop k) (x.1,x.2.1)∧x.1.length=k) ([],4,90) [6,7] (.inl rfl) (by(refine zp rfl ?_ ?_ ?_<;>simp);done) ?_ (by rfl) (by rfl) (by rfl) (by rfl) (by rfl) (zwX l c hl2 _) (fun _=>by rfl) (by decide) (fun k x hkk hqx XX I0 Gr lr w1 hG RA hRA=>?_) (fun x hqx=>?_);rotate_left;obtain⟨p,hp⟩: ∃p,(jm l (some c))[k]=p:=⟨_,rfl⟩;have hps:=J7 _ _ _ (List.getElem_mem hkk);rw[hp]at hps ⊢;rcases p with⟨_|a,_|b⟩<;>simp only[gPr,zyQ]<;>obtain⟨hq1,hq2⟩:=hqx)|(exact absurd rfl hps)|(refine jk false hT (by decide) ?_;simp only[push_cast,seval, *])|(refine zqz rfl Tryz.underlying293 (by rfl) ?_;simp only[push_cast,seval, *])|refine rtl 5 [] ?_|((with_reducible refine zL fun R hR=>?_);refine rtl 5 [] ?_)|refine lat ?_|refine rdb [] ?_|refine rex [] ?_|refine cad (zoq a) ?_|refine cad (zoq b) ?_|refine cad (zm4 _ _ _ _) ?_|(refine zek (by assumption) ((x.1++[b],x.2.1,24)) ?_ ?_;(focus((refine zp rfl ?_ ?_ ?_<;>simp);done)))|(refine zek (by assumption) ((x.1++[a],x.2.1,58)) ?_ ?_;(focus((refine zp rfl ?_ ?_ ?_<;>simp);done)))|(refine zek (by assumption) ((x.1++[b],(3:Int),58)) ?_ ?_;(focus((refine zp rfl ?_ ?_ ?_<;>simp);done)))|(refine zek (by assumption) ((x.1++[a],(1:Int),58)) ?_ ?_;(focus((refine zp rfl ?_ ?_ ?_<;>simp);done)))|(refine zek (by assumption) ((x.1++[a],(2:Int),58)) ?_ ?_;(focus((refine zp rfl ?_ ?_ ?_<;>simp);done)))|refine cal (zfq _ hl2) ?_|(refine s2 ?_;try with_reducible intro R hR)|fail)
 (all_goals(repeat(first|clear hR|clear hRA|clear hRn|clear hRr|clear hRe|clear hRL)))
 all_goals first
  |grind[zv8,zuE,List.drop_length]
  |(refine⟨?_,by simp[hq2]⟩;rw[hq1,zP hkk,hp,Q0];simp[zlm, *];done)
end Go.Proofs.YtbcbnfiedgnfpaaGreat
