import Derived.Test.YtbcbnfiedgnfpaaGreatZ16
set_option linter.unusedSimpArgs false
set_option linter.unusedVariables false
set_option maxRecDepth 100000
set_option maxHeartbeats 2000000
namespace Go.Proofs.YtbcbnfiedgnfpaaGreat
open Go.Dl
attribute [local irreducible] DW yE zY zA zu zky
attribute [local push_cast] zZ qF qC zN zM zD zE qH qE qz Go.Dl.qY yT qy List.mem_cons List.not_mem_nil or_false forall_eq false_implies implies_true
structure It where
 c:Ch
 ve:Int
 wt:Int
 fl:Int
 hr:Bool
 rs:Int
 mn:Ex
 mx:Ex
def yS (x:It):List F:=[eS x.c.nm,eI x.c.ep,eI x.c.ma,eB x.c.al,eI x.c.kd,eI x.c.sc,eI x.ve,eI x.wt,eI x.fl,eB x.hr,eI x.rs,eB x.mn.has,eI x.mn.val,eI x.mn.org,eI x.mn.age,eB x.mx.has,eI x.mx.val,eI x.mx.org,eI x.mx.age]
abbrev cI (x:It):List C:=[.f (eS x.c.nm),.f (eI x.c.ep),.f (eI x.c.ma),.f (eB x.c.al),.f (eI x.c.kd),.f (eI x.c.sc),.f (eI x.ve),.f (eI x.wt),.f (eI x.fl),.f (eB x.hr),.f (eI x.rs),.f (eB x.mn.has),.f (eI x.mn.val),.f (eI x.mn.org),.f (eI x.mn.age),.f (eB x.mx.has),.f (eI x.mx.val),.f (eI x.mx.org),.f (eI x.mx.age)]
attribute [push_cast] yS
attribute [simp] yS
abbrev gIt (x:It):V:=.agg (cI x)
abbrev zCm (l:List It):V:=.c (.f (.l 19 (l.map yS)))
theorem zvX:zep Tryz.prog 136 [some .str,some (.int .i64),some (.int .i64),some .bool,some (.int .i64),some (.int .i64),some (.int .i64),some (.int .i64),some (.int .i64),some .bool,some (.int .i64),some .bool,some (.int .i64),some (.int .i64),some (.int .i64),some .bool,some (.int .i64),some (.int .i64),some (.int .i64)]:=
 Jn (ks:=[.str,.int .i64,.int .i64,.bool,.int .i64,.int .i64,.int .i64,.int .i64,.int .i64,.bool,.int .i64,.bool,.int .i64,.int .i64,.int .i64,.bool,.int .i64,.int .i64,.int .i64]) 4 (by decide) (by kernel_rfl) (by kernel_rfl) (by kernel_rfl)
attribute [push_cast] zvX
theorem znM (s:ByteArray) (hl:s.size≤1048576):zu Tryz.prog 193 [gS s] (gB (jr s)):=by
 refine enx [.tmp 2] Tryz.func193 fun X w0=>?_
 repeat'(first|(refine spl ?_ ?_<;>(intro hb;refine ne ?_))|(refine zl hR ?_;clear hR)|refine s1 ?_|exact True.intro|((with_reducible refine zW ?_);refine rgx (ι:=Unit) (s.size) (fun k _=>St.ofA [(0,gS s),(14,gI s.size),(15,gI k)] [] []) (fun k _=>ZP s.data.toList=ZP (s.data.toList.drop k)) () ?_ (fun k x hJ hk=>?_) (fun x hJ=>?_))|refine rnx (()) ?_|(refine s2 ?_;try with_reducible intro R hR)|fail)
 all_goals(refine gz ?_;grind[jr,zfF,Ya,Qq,J9,Jh])
theorem zbH (n:Int):zu Tryz.prog 126 [gI n] (gB (nodeB n)):=by
 refine enx [.tmp 2] Tryz.func126 fun X w0=>?_
 repeat'(first|(refine spl ?_ ?_<;>(intro hb;refine ne ?_))|(refine zl hR ?_;clear hR)|refine s1 ?_|exact True.intro|fail|(refine s2 ?_;try with_reducible intro R hR)|fail)
 all_goals(refine gz ?_;grind[nodeB])
theorem zbO (n:Int):zu Tryz.prog 107 [gI n] (gB (nodeB n)):=by
 refine enx [.tmp 2] Tryz.func107 fun X w0=>?_
 repeat'(first|(refine spl ?_ ?_<;>(intro hb;refine ne ?_))|(refine zl hR ?_;clear hR)|refine s1 ?_|exact True.intro|fail|(refine s2 ?_;try with_reducible intro R hR)|fail)
 all_goals(refine gz ?_;grind[nodeB])
def Zo (x a b:Int):Bool:=decide (a≤x)&&decide (x≤b)
theorem QH (x a b:Int):zu Tryz.prog 127 [gI x,gI a,gI b] (gB (Zo x a b)):=by
 refine enx [.tmp 6] Tryz.func127 fun X w0=>?_
 repeat'(first|(refine spl ?_ ?_<;>(intro hb;refine ne ?_))|(refine zl hR ?_;clear hR)|refine s1 ?_|exact True.intro|fail|(refine s2 ?_;try with_reducible intro R hR)|fail)
 all_goals(refine gz ?_;grind[Zo])
theorem QP (x a b:Int):zu Tryz.prog 108 [gI x,gI a,gI b] (gB (Zo x a b)):=by
 refine enx [.tmp 6] Tryz.func108 fun X w0=>?_
 repeat'(first|(refine spl ?_ ?_<;>(intro hb;refine ne ?_))|(refine zl hR ?_;clear hR)|refine s1 ?_|exact True.intro|fail|(refine s2 ?_;try with_reducible intro R hR)|fail)
 all_goals(refine gz ?_;grind[Zo])
theorem zdU (x:Int):zu Tryz.prog 194 [gI x] (gB (flowB x)):=by
 refine enx [.tmp 2] Tryz.func194 fun X w0=>?_
 repeat'(first|(refine spl ?_ ?_<;>(intro hb;refine ne ?_))|(refine zl hR ?_;clear hR)|refine s1 ?_|exact True.intro|refine cal (QH _ _ _) ?_|(refine s2 ?_;try with_reducible intro R hR)|fail)
 all_goals(refine gz ?_;grind[flowB,Zo])
theorem zfe (x:Int):zu Tryz.prog 182 [gI x] (gB (flowB x)):=by
 refine enx [.tmp 2] Tryz.func182 fun X w0=>?_
 repeat'(first|(refine spl ?_ ?_<;>(intro hb;refine ne ?_))|(refine zl hR ?_;clear hR)|refine s1 ?_|exact True.intro|refine cal (QP _ _ _) ?_|(refine s2 ?_;try with_reducible intro R hR)|fail)
 all_goals(refine gz ?_;grind[flowB,Zo])
theorem zqD (e:Ex):zu Tryz.prog 195 [gX e] (gB (yQ e)):=by
 refine enx [.tmp 2] Tryz.func195 fun X w0=>?_
 repeat'(first|(refine spl ?_ ?_<;>(intro hb;refine ne ?_))|(refine zl hR ?_;clear hR)|refine s1 ?_|exact True.intro|refine cal (zdU _) ?_|refine cal (zbH _) ?_|refine cal (QH _ _ _) ?_|(refine s2 ?_;try with_reducible intro R hR)|fail)
 all_goals(refine gz ?_;grind[yQ,nodeB,Zo])
theorem zq7 (e:Ex):zu Tryz.prog 183 [gX e] (gB (yQ e)):=by
 refine enx [.tmp 2] Tryz.func183 fun X w0=>?_
 repeat'(first|(refine spl ?_ ?_<;>(intro hb;refine ne ?_))|(refine zl hR ?_;clear hR)|refine s1 ?_|exact True.intro|refine cal (zfe _) ?_|refine cal (zbO _) ?_|refine cal (QP _ _ _) ?_|(refine s2 ?_;try with_reducible intro R hR)|fail)
 all_goals(refine gz ?_;grind[yQ,nodeB,Zo])
def zrX (e:Ex):Bool:=!e.has&&decide (e.val=0)&&decide (e.org=0)&&decide (e.age=0)
def zrR (x:It):Bool:=decide (x.ve=0)&&decide (x.wt=0)&&decide (x.fl=0)
def itmB (x:It):Bool:=jC x.c&&
 (if x.c.al&& !decide (x.c.kd=4)then(zrR x||(Zo x.ve 1 1099511627776&&nodeB x.wt&&flowB x.fl))&&flowB x.rs&&(x.hr||decide (x.rs=0))else zrR x&& !x.hr&&decide (x.rs=0))&&
 (if x.c.al&&decide (x.c.kd=4)then yQ x.mn&&yQ x.mx else zrX x.mn&&zrX x.mx)
theorem zhX (x:It) (hn:x.c.nm.size≤1048576):zu Tryz.prog 109 [gIt x] (gB (itmB x)):=by
 refine enx [.tmp 2] Tryz.func109 fun X w0=>?_
 repeat'(first|(refine spl ?_ ?_<;>(intro hb;refine ne ?_))|(refine zl hR ?_;clear hR)|refine s1 ?_|exact True.intro|refine cal (zbR _ hn) ?_|refine cal (zfe _) ?_|refine cal (zbO _) ?_|refine cal (QP _ _ _) ?_|refine cal (zq7 _) ?_|(refine s2 ?_;try with_reducible intro R hR)|fail)
 (all_goals(repeat(first|clear hR|clear hRA|clear hRn|clear hRr|clear hRe|clear hRL)))
 all_goals(simp only[itmB,jC,zrR,zrX,zcQ,JF,Zo,zis,Bool.not_eq_true',Bool.not_eq_false',Bool.and_eq_true,Bool.and_eq_false_iff,Bool.or_eq_true,Bool.or_eq_false_iff,decide_eq_true_eq,decide_eq_false_iff_not,beq_iff_eq,bne_iff_ne,ne_eq,beq_eq_false_iff_ne,bne_eq_false_iff_eq]at*;refine congrArg F.s (congrArg Value.bool ?_);grind (splits:=40))
theorem zaO (s:ByteArray):(s==s)=true:=zis.2 rfl
def zw6 (x:It):Bool:=if !x.c.al then zrR x&& !x.hr&&decide (x.rs=0)&&zrX x.mn&&zrX x.mx else if decide (x.c.kd=4)then zrR x&& !x.hr&&decide (x.rs=0)else zrX x.mn&&zrX x.mx
def zw9 (x:It):Bool:=jr x.c.nm&&Zo x.c.ep 1 1099511627776&&nodeB x.c.ma&&decide (1≤x.c.kd)&&decide (x.c.kd≤4)&&Zo x.c.sc 1 1048576&&(!decide (x.c.kd=4)||decide (x.c.sc=1))&&(zrR x||(Zo x.ve 1 1099511627776&&nodeB x.wt&&flowB x.fl))&&zw6 x&&flowB x.rs&&(x.hr||decide (x.rs=0))&&yQ x.mn&&yQ x.mx
theorem zpJ {e:Ex} (h:zrX e=true):yQ e=true:=by simp only[zrX,Bool.and_eq_true,Bool.not_eq_true',decide_eq_true_eq]at h;simp[yQ,h]
theorem zwA (x:It):itmB x=zw9 x:=by
 have h0:flowB 0=true:=rfl
 have hs:jC x.c=(jr x.c.nm&&Zo x.c.ep 1 1099511627776&&nodeB x.c.ma&&decide (1≤x.c.kd)&&decide (x.c.kd≤4)&&Zo x.c.sc 1 1048576&&(!decide (x.c.kd=4)||decide (x.c.sc=1))):=by
  simp only[jC,zcQ,JF,Zo];simp only[Bool.and_assoc]
 have key: ∀(al h4 r0 hr P R z a b c d f:Bool),(a=true→c=true)→(b=true→d=true)→(r0=true→f=true)→
   (P&&(if(al&& !h4)=true then(z||R)&&f&&(hr||r0)else z&& !hr&&r0)&&(if(al&&h4)=true then c&&d else a&&b))=
   (P&&(z||R)&&(if(!al)=true then z&& !hr&&r0&&a&&b else if h4=true then z&& !hr&&r0 else a&&b)&&f&&(hr||r0)&&c&&d):=by
  intro al h4 r0 hr P R z a b c d f h1 h2 h3
  cases P
  ·simp
  ·cases al
   ·cases a<;>cases b<;>simp at h1 h2<;>cases hr<;>cases r0<;>simp at h3<;>simp[*]<;>(try(cases z<;>cases R<;>simp))
   ·cases h4
    ·cases a<;>cases b<;>simp at h1 h2<;>cases hr<;>cases r0<;>simp at h3<;>simp[*]
    ·cases hr<;>cases r0<;>simp at h3<;>simp[*]<;>(try(cases z<;>cases R<;>simp))
 have:=key x.c.al (decide (x.c.kd=4)) (decide (x.rs=0)) x.hr (jC x.c) (Zo x.ve 1 1099511627776&&nodeB x.wt&&flowB x.fl) (zrR x) (zrX x.mn) (zrX x.mx) (yQ x.mn) (yQ x.mx) (flowB x.rs) zpJ zpJ (fun h=>by rw[of_decide_eq_true h];rfl)
 rw[hs]at this
 unfold itmB zw9 zw6
 rw[hs]
 exact this
theorem zfb (x:It) (hn:x.c.nm.size≤1048576):zu Tryz.prog 128 [gIt x] (gB (itmB x)):=by
 refine enx [.tmp 2] Tryz.func128 fun X w0=>?_
 repeat'(first|(refine spl ?_ ?_<;>(intro hb;refine ne ?_))|(refine zl hR ?_;clear hR)|refine s1 ?_|exact True.intro|refine cal (znM _ hn) ?_|refine cal (zdU _) ?_|refine cal (zbH _) ?_|refine cal (QH _ _ _) ?_|refine cal (zqD _) ?_|((with_reducible refine zL fun R hR=>?_);refine rex [] ?_)|(refine s2 ?_;try with_reducible intro R hR)|fail)
 (all_goals(repeat(first|clear hR|clear hRA|clear hRn|clear hRr|clear hRe|clear hRL)))
 all_goals(refine congrArg F.s (congrArg Value.bool ?_);rw[zwA])
 all_goals(try simp only[Bool.and_eq_true,Bool.and_eq_false_iff,beq_iff_eq,beq_eq_false_iff_ne,ne_eq,Bool.not_eq_true',Bool.not_eq_false',@eq_comm Int 0,@eq_comm Bool false,and_true,or_false,true_and,not_true_eq_false,false_or,Bool.true_eq_false,zaO]at*)
 all_goals(try(simp_all[zw9,zw6,zrR,zrX];done))
 all_goals(first|(simp_all[zw9,zw6,zrR,zrX];first|done|(intros;omega)|grind))
end Go.Proofs.YtbcbnfiedgnfpaaGreat
