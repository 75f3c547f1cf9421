import Derived.Test.YtbcbnfiedgnfpaaGreatZ08
import Derived.Defers
set_option linter.unusedSimpArgs false
set_option linter.unusedVariables false
set_option maxRecDepth 100000
set_option maxHeartbeats 2000000
namespace Go.Proofs.YtbcbnfiedgnfpaaGreat
open Go.Dl
attribute [local irreducible] DW yE zY zA zu zky
attribute [local push_cast] zZ qF qC zN zM zD zE qH qE qz Go.Dl.qY yT qy List.mem_cons List.not_mem_nil or_false forall_eq false_implies implies_true
abbrev gR (v w f:Int):V:=.agg [.f (eI v),.f (eI w),.f (eI f)]
abbrev gF (f:FuncId):V:=.c (.f (.s (.func (.func f) #[] #[])))
abbrev rII (x:Int×Int):V:=.tup [(false,[.f (eI x.1)]),(false,[.f (eI x.2)])]
abbrev wr (x:Int):Int:=IntKind.i64.wrap x
def flowB (x:Int):Bool:=decide (-2147483647≤x)&&decide (x≤2147483647)
theorem zaU (x:Int):zu Tryz.prog 156 [gI x] (gB (flowB x)):=by
 refine enx [.tmp 2] Tryz.func156 fun X w0=>?_
 repeat'(first|(refine spl ?_ ?_<;>(intro hb;refine ne ?_))|(refine zl hR ?_;clear hR)|refine s1 ?_|exact True.intro|fail|(refine s2 ?_;try with_reducible intro R hR)|fail)
 all_goals(refine gz ?_;grind[flowB])
theorem zeY (x:Int):zu Tryz.prog 375 [gI x] (gB (flowB x)):=by
 refine enx [.tmp 2] Tryz.func375 fun X w0=>?_
 repeat'(first|(refine spl ?_ ?_<;>(intro hb;refine ne ?_))|(refine zl hR ?_;clear hR)|refine s1 ?_|exact True.intro|fail|(refine s2 ?_;try with_reducible intro R hR)|fail)
 all_goals(refine gz ?_;grind[flowB])
theorem zbG (x:Int):zu Tryz.prog 297 [gI x] (gB (flowB x)):=by
 refine enx [.tmp 2] Tryz.func297 fun X w0=>?_
 repeat'(first|(refine spl ?_ ?_<;>(intro hb;refine ne ?_))|(refine zl hR ?_;clear hR)|refine s1 ?_|exact True.intro|fail|(refine s2 ?_;try with_reducible intro R hR)|fail)
 all_goals(refine gz ?_;grind[flowB])
theorem zw0 (a b:Int):zu Tryz.prog 377 [gI a,gI b] (gI (wr (a - b))):=by
 refine enx [.tmp 4] Tryz.func377 fun X w0=>?_
 repeat'(first|(refine spl ?_ ?_<;>(intro hb;refine ne ?_))|(refine zl hR ?_;clear hR)|refine s1 ?_|exact True.intro|fail|(refine s2 ?_;try with_reducible intro R hR)|fail)
theorem zzs (a b:Int):zu Tryz.prog 361 [gI a,gI b] (gI (wr (a*b))):=by
 refine enx [.tmp 4] Tryz.func361 fun X w0=>?_
 repeat'(first|(refine spl ?_ ?_<;>(intro hb;refine ne ?_))|(refine zl hR ?_;clear hR)|refine s1 ?_|exact True.intro|fail|(refine s2 ?_;try with_reducible intro R hR)|fail)
theorem zxM (a b:Int):zu Tryz.prog 372 [gI a,gI b] (gI (wr ((wr (a - b)).tdiv 2))):=by
 refine enx [.tmp 4] Tryz.func372 fun X w0=>?_
 repeat'(first|(refine spl ?_ ?_<;>(intro hb;refine ne ?_))|(refine zl hR ?_;clear hR)|refine s1 ?_|exact True.intro|fail|(refine s2 ?_;try with_reducible intro R hR)|fail)
def told (x:Int):Int×Int:=if flowB x then(x,0)else(0,10)
def Ym (a b x:Int):Int×Int:=if flowB a&&flowB b then told x else(0,10)
theorem zdm {f:FuncId} {a b x:Int} (hf:zu Tryz.prog f [gI a,gI b] (gI x)):zu Tryz.prog 360 [gI a,gI b,gF f] (rII (Ym a b x)):=by
 refine enx [.tmp 6,.tmp 7] Tryz.func360 fun X w0=>?_
 repeat'(first|(refine spl ?_ ?_<;>(intro hb;refine ne ?_))|(refine zl hR ?_;clear hR)|refine s1 ?_|exact True.intro|refine cal (zaU _) ?_|refine cav (hf) ?_|(refine s2 ?_;try with_reducible intro R hR)|fail)
 all_goals(refine gz ?_;grind[Ym,told])
theorem zto (a b:Int):zu Tryz.prog 371 [gI a,gI b] (rII (Ym a b (a - b))):=by
 refine enx [.tmp 4,.tmp 5] Tryz.func371 fun X w0=>?_
 repeat'(first|(refine spl ?_ ?_<;>(intro hb;refine ne ?_))|(refine zl hR ?_;clear hR)|refine s1 ?_|exact True.intro|refine cal (zdm (zw0 _ _)) ?_|(refine s2 ?_;try with_reducible intro R hR)|fail)
 all_goals(refine gz ?_;grind[Ym,told,flowB,IntKind.wrap_i64])
theorem zmf (a b:Int):zu Tryz.prog 337 [gI a,gI b] (rII (Ym a b (wr (a*b)))):=by
 refine enx [.tmp 4,.tmp 5] Tryz.func337 fun X w0=>?_
 repeat'(first|(refine spl ?_ ?_<;>(intro hb;refine ne ?_))|(refine zl hR ?_;clear hR)|refine s1 ?_|exact True.intro|refine cal (zdm (zzs _ _)) ?_|(refine s2 ?_;try with_reducible intro R hR)|fail)
def zj6 (a b:Int):Int×Int:=if flowB a&&flowB b then((a - b).tdiv 2,0)else(0,10)
theorem zyo (x:Int) (h: -4294967294≤x∧x≤4294967294): -2147483647≤x.tdiv 2∧x.tdiv 2≤2147483647:=by
 rcases Int.le_total 0 x with h0|h0
 ·rw[Int.tdiv_eq_ediv_of_nonneg h0];omega
 ·rw[show x= -(-x)by omega,Int.neg_tdiv,Int.tdiv_eq_ediv_of_nonneg (by omega)];omega
theorem zxC (a b:Int):Ym a b (wr ((wr (a - b)).tdiv 2))=zj6 a b:=by
 by_cases h:(flowB a&&flowB b)=true
 ·have h2:=h
  simp only[flowB,Bool.and_eq_true,decide_eq_true_eq]at h2
  have e1:wr (a - b)=a - b:=by rw[wr,IntKind.wrap_i64];omega
  have h3:=zyo (a - b) (by omega)
  have e2:wr ((a - b).tdiv 2)=(a - b).tdiv 2:=by rw[wr,IntKind.wrap_i64];omega
  have h4:flowB ((a - b).tdiv 2)=true:=by simp[flowB,h3]
  simp only[Ym,zj6,h,if_true,e1,e2,told,h4]
 ·simp only[Ym,zj6,h,if_false,Bool.false_eq_true]
theorem zqa (a b:Int):zu Tryz.prog 356 [gI a,gI b] (rII (zj6 a b)):=by
 rw[←zxC]
 refine enx [.tmp 4,.tmp 5] Tryz.func356 fun X w0=>?_
 repeat'(first|(refine spl ?_ ?_<;>(intro hb;refine ne ?_))|(refine zl hR ?_;clear hR)|refine s1 ?_|exact True.intro|refine cal (zdm (zxM _ _)) ?_|(refine s2 ?_;try with_reducible intro R hR)|fail)
theorem zzq:zep Tryz.prog 47 [some (.int .i64),some (.int .i64),some (.int .i64)]:=by
 have key: ∀us:Array Value,us.toList.map kd=[some (.int .i64),some (.int .i64),some (.int .i64)]→∃a b c:Int,us= #[.int .i64 a,.int .i64 b,.int .i64 c]:=fun us h=>by
  obtain⟨us⟩:=us
  match us,h with
  | [u,v,x],h=>
   simp only[List.map_cons,List.map_nil,List.cons.injEq,and_true]at h
   have one: ∀u:Value,kd u=some (.int .i64)→∃a:Int,u= .int .i64 a:=fun u hu=>by
    cases u<;>simp[kd]at hu
    exact⟨_,by rw[hu]⟩
   obtain⟨a,rfl⟩:=one u h.1
   obtain⟨b,rfl⟩:=one v h.2.1
   obtain⟨c,rfl⟩:=one x h.2.2
   exact⟨a,b,c,rfl⟩
  |[],h=>simp at h
  |[_],h=>simp at h
  |[_,_],h=>simp at h
  | _::_::_::_::_,h=>simp at h
 intro us vs r w hu hv hr x y
 obtain⟨a,b,c,rfl⟩:=key us hu
 obtain⟨a',b',c',rfl⟩:=key vs hv
 simp only[jo,Bool.and_true,Option.some.injEq]at hr
 subst hr
 refine⟨by simp[go_sem],by simp[go_sem],?_,?_⟩
 ·rw[run_eql_struct]
  by_cases h1:a=a'<;>by_cases h2:b=b'<;>by_cases h3:c=c'<;>simp[go_sem,run_equalIn_agg,run_equalIn_int,h1,h2,h3]
 rw[run_neq_struct]
 by_cases h1:a=a'<;>by_cases h2:b=b'<;>by_cases h3:c=c'<;>simp[go_sem,run_equalIn_agg,run_equalIn_int,h1,h2,h3]
attribute [push_cast] zzq
def newR (a b c d:Int):Bool:=decide (c<a)||(decide (a=c)&&decide (b<d))
theorem zxk (a b c d:Int):zu Tryz.prog 354 [gI a,gI b,gI c,gI d] (gB (newR a b c d)):=by
 refine enx [.tmp 8] Tryz.func354 fun X w0=>?_
 repeat'(first|(refine spl ?_ ?_<;>(intro hb;refine ne ?_))|(refine zl hR ?_;clear hR)|refine s1 ?_|exact True.intro|fail|(refine s2 ?_;try with_reducible intro R hR)|fail)
 all_goals(refine gz ?_;grind[newR])
theorem zmR (a b f c d g:Int):zu Tryz.prog 331 [gR a b f,gR c d g] (gB (newR a b c d)):=by
 refine enx [.tmp 4] Tryz.func331 fun X w0=>?_
 repeat'(first|(refine spl ?_ ?_<;>(intro hb;refine ne ?_))|(refine zl hR ?_;clear hR)|refine s1 ?_|exact True.intro|refine cal (zxk _ _ _ _) ?_|(refine s2 ?_;try with_reducible intro R hR)|fail)
 all_goals(refine gz ?_;grind[])
theorem zk4 (a b f c d g:Int):zu Tryz.prog 110 [gR a b f,gR c d g] (gB (newR a b c d)):=by
 refine enx [.tmp 4] Tryz.func110 fun X w0=>?_
 repeat'(first|(refine spl ?_ ?_<;>(intro hb;refine ne ?_))|(refine zl hR ?_;clear hR)|refine s1 ?_|exact True.intro|fail|(refine s2 ?_;try with_reducible intro R hR)|fail)
 all_goals(refine gz ?_;grind[newR])
theorem zre (n:Int):zu Tryz.prog 296 [gI n] (gB (nodeB n)):=by
 refine enx [.tmp 2] Tryz.func296 fun X w0=>?_
 repeat'(first|(refine spl ?_ ?_<;>(intro hb;refine ne ?_))|(refine zl hR ?_;clear hR)|refine s1 ?_|exact True.intro|fail|(refine s2 ?_;try with_reducible intro R hR)|fail)
 all_goals(refine gz ?_;grind[nodeB])
theorem znG (n:Int):zu Tryz.prog 140 [gI n] (gB (nodeB n)):=by
 refine enx [.tmp 2] Tryz.func140 fun X w0=>?_
 repeat'(first|(refine spl ?_ ?_<;>(intro hb;refine ne ?_))|(refine zl hR ?_;clear hR)|refine s1 ?_|exact True.intro|fail|(refine s2 ?_;try with_reducible intro R hR)|fail)
 all_goals(refine gz ?_;grind[nodeB])
def Qd (v w f a b:Int):Bool:=nodeB a&&nodeB b&& !decide (a=b)&&((decide (v=0)&&decide (w=0)&&decide (f=0))||(decide (1≤v)&&decide (v≤1099511627776)&&(decide (w=a)||decide (w=b))&&flowB f))
theorem Yi (v w f a b:Int):zu Tryz.prog 227 [gR v w f,gI a,gI b] (gB (Qd v w f a b)):=by
 refine enx [.tmp 6] Tryz.func227 fun X w0=>?_
 repeat'(first|(refine spl ?_ ?_<;>(intro hb;refine ne ?_))|(refine zl hR ?_;clear hR)|refine s1 ?_|exact True.intro|refine cal (zre _) ?_|refine cal (zbG _) ?_|(refine s2 ?_;try with_reducible intro R hR)|fail)
 all_goals(refine gz ?_;grind[Qd])
theorem ZE (v w f a b:Int):zu Tryz.prog 69 [gR v w f,gI a,gI b] (gB (Qd v w f a b)):=by
 refine enx [.tmp 6] Tryz.func69 fun X w0=>?_
 repeat'(first|(refine spl ?_ ?_<;>(intro hb;refine ne ?_))|(refine zl hR ?_;clear hR)|refine s1 ?_|exact True.intro|refine cal (znG _) ?_|(refine s2 ?_;try with_reducible intro R hR)|fail)
 all_goals(refine gz ?_;grind[Qd,flowB])
def outR (v w f a b:Int):Int:=if Qd v w f a b then(if a<b then f else -f)else 0
theorem zmv (v w f a b:Int):zu Tryz.prog 280 [gR v w f,gI a,gI b] (gI (outR v w f a b)):=by
 refine enx [.tmp 6] Tryz.func280 fun X w0=>?_
 repeat'(first|(refine spl ?_ ?_<;>(intro hb;refine ne ?_))|(refine zl hR ?_;clear hR)|refine s1 ?_|exact True.intro|refine cal (Yi _ _ _ _ _) ?_|(refine s2 ?_;try with_reducible intro R hR)|fail)
 all_goals(refine gz ?_;grind[outR,Qd,flowB,IntKind.wrap_i64])
theorem zda (v w f a b:Int):zu Tryz.prog 21 [gR v w f,gI a,gI b] (gI (outR v w f a b)):=by
 refine enx [.tmp 6] Tryz.func21 fun X w0=>?_
 repeat'(first|(refine spl ?_ ?_<;>(intro hb;refine ne ?_))|(refine zl hR ?_;clear hR)|refine s1 ?_|exact True.intro|refine cal (ZE _ _ _ _ _) ?_|(refine s2 ?_;try with_reducible intro R hR)|fail)
 all_goals(refine gz ?_;grind[outR,Qd,flowB,IntKind.wrap_i64])
abbrev jQ:=Int×Int×Int
abbrev rRI (x:jQ×Int):V:=.tup [(true,[.f (eI x.1.1),.f (eI x.1.2.1),.f (eI x.1.2.2)]),(false,[.f (eI x.2)])]
def zaC (f a b am:Int):Int:=if b<a then f - am else f+am
def Yu (v w f a b am wt:Int):jQ×Int:=
 if !Qd v w f a b||(!decide (wt=a)&& !decide (wt=b))then((0,0,0),31)else if !flowB am then((0,0,0),10)else if am=0 then((v,w,f),0)
 else if decide (v=1099511627776)|| !flowB (zaC f a b am)then((0,0,0),10)else((v+1,wt,zaC f a b am),0)
theorem zs8 {v w f a b:Int} (h:Qd v w f a b=true):0≤v∧v≤1099511627776∧ -2147483647≤f∧f≤2147483647:=by grind[Qd,flowB]
theorem ZQ {f:Int} (h:flowB f=true): -2147483647≤f∧f≤2147483647:=by grind[flowB]
theorem yj {x:Int} (h: -9223372036854775808≤x∧x≤9223372036854775807):IntKind.i64.wrap x=x:=by rw[IntKind.wrap_i64];omega
theorem zp5 (v w f a b am wt:Int):zu Tryz.prog 357 [gR v w f,gI a,gI b,gI am,gI wt] (rRI (Yu v w f a b am wt)):=by
 by_cases h0:Qd v w f a b=true∧flowB am=true
 ·have h1:=zs8 h0.1
  have h2:=ZQ h0.2
  have e1:=yj (x:=f - am) (by omega)
  have e2:=yj (x:=f+am) (by omega)
  have e3:=yj (x:=v+1) (by omega)
  clear h1 h2
  obtain⟨h1,h2⟩:=h0
  refine enx [.cell 10 47,.tmp 11] Tryz.func357 fun X w0=>?_
  repeat'(first|(refine spl ?_ ?_<;>(intro hb;refine ne ?_))|(refine zl hR ?_;clear hR)|refine s1 ?_|exact True.intro|refine cal (Yi _ _ _ _ _) ?_|refine cal (zbG _) ?_|(refine s2 ?_;try with_reducible intro R hR)|fail)
  all_goals(refine gz ?_;grind[Yu,zaC])
 ·refine enx [.cell 10 47,.tmp 11] Tryz.func357 fun X w0=>?_
  repeat'(first|(refine spl ?_ ?_<;>(intro hb;refine ne ?_))|(refine zl hR ?_;clear hR)|refine s1 ?_|exact True.intro|refine cal (Yi _ _ _ _ _) ?_|refine cal (zbG _) ?_|(refine s2 ?_;try with_reducible intro R hR)|fail)
  all_goals(refine gz ?_;grind[Yu,zaC])
theorem zeV (v w f a b am wt:Int):zu Tryz.prog 368 [gR v w f,gI a,gI b,gI am,gI wt] (rRI (Yu v w f a b am wt)):=by
 by_cases h0:Qd v w f a b=true∧flowB am=true
 ·have h1:=zs8 h0.1
  have h2:=ZQ h0.2
  have e1:=yj (x:=f - am) (by omega)
  have e2:=yj (x:=f+am) (by omega)
  have e3:=yj (x:=v+1) (by omega)
  have h9:=h1.2.1
  clear h1 h2
  obtain⟨h1,h2⟩:=h0
  refine enx [.cell 10 47,.tmp 11] Tryz.func368 fun X w0=>?_
  repeat'(first|(refine spl ?_ ?_<;>(intro hb;refine ne ?_))|(refine zl hR ?_;clear hR)|refine s1 ?_|exact True.intro|refine cal (ZE _ _ _ _ _) ?_|(refine s2 ?_;try with_reducible intro R hR)|fail)
  all_goals(refine gz ?_;grind[Yu,zaC,flowB])
 ·refine enx [.cell 10 47,.tmp 11] Tryz.func368 fun X w0=>?_
  repeat'(first|(refine spl ?_ ?_<;>(intro hb;refine ne ?_))|(refine zl hR ?_;clear hR)|refine s1 ?_|exact True.intro|refine cal (ZE _ _ _ _ _) ?_|(refine s2 ?_;try with_reducible intro R hR)|fail)
  all_goals(refine gz ?_;grind[Yu,zaC,flowB])
theorem zde (v w f a b:Int):flowB (outR v w f a b)=true:=by grind[outR,Qd,flowB]
abbrev zBz (x:jQ):V:=.tup [(false,[.f (eI x.1)]),(false,[.f (eI x.2.1)]),(false,[.f (eI x.2.2)])]
def je (me p v w f rest told:Int):jQ:=
 if !Qd v w f me p then(0,0,31)else if flowB rest&&flowB told&&flowB (rest - outR v w f me p)&&flowB (told - outR v w f p me)then(rest - outR v w f me p,told - outR v w f p me,0)else(0,0,10)
theorem zlK (me p v w f rest told:Int):zu Tryz.prog 355 [gI me,gI p,gR v w f,gI rest,gI told] (zBz (je me p v w f rest told)):=by
 refine enx [.tmp 10,.tmp 11,.tmp 12] Tryz.func355 fun X w0=>?_
 repeat'(first|(refine spl ?_ ?_<;>(intro hb;refine ne ?_))|(refine zl hR ?_;clear hR)|refine s1 ?_|exact True.intro|refine cal (Yi _ _ _ _ _) ?_|refine cal (zmv _ _ _ _ _) ?_|refine cal (zto _ _) ?_|(refine s2 ?_;try with_reducible intro R hR)|fail)
 all_goals(refine gz ?_;grind[je,Ym,Go.Proofs.YtbcbnfiedgnfpaaGreat.told,zde])
theorem zhn (me p v w f rest told:Int):zu Tryz.prog 367 [gI me,gI p,gR v w f,gI rest,gI told] (zBz (je me p v w f rest told)):=by
 by_cases h0:flowB rest=true∧flowB told=true
 ·have h1:=ZQ h0.1
  have h2:=ZQ h0.2
  have h3:=ZQ (zde v w f me p)
  have h4:=ZQ (zde v w f p me)
  have e1:=yj (x:=rest - outR v w f me p) (by omega)
  have e2:=yj (x:=told - outR v w f p me) (by omega)
  clear h1 h2 h3 h4
  refine enx [.tmp 10,.tmp 11,.tmp 12] Tryz.func367 fun X w0=>?_
  repeat'(first|(refine spl ?_ ?_<;>(intro hb;refine ne ?_))|(refine zl hR ?_;clear hR)|refine s1 ?_|exact True.intro|refine cal (ZE _ _ _ _ _) ?_|refine cal (zda _ _ _ _ _) ?_|refine cal (zeY _) ?_|(refine s2 ?_;try with_reducible intro R hR)|fail)
  all_goals(refine gz ?_;grind[je])
 ·refine enx [.tmp 10,.tmp 11,.tmp 12] Tryz.func367 fun X w0=>?_
  repeat'(first|(refine spl ?_ ?_<;>(intro hb;refine ne ?_))|(refine zl hR ?_;clear hR)|refine s1 ?_|exact True.intro|refine cal (ZE _ _ _ _ _) ?_|refine cal (zda _ _ _ _ _) ?_|refine cal (zeY _) ?_|(refine s2 ?_;try with_reducible intro R hR)|fail)
  all_goals(refine gz ?_;grind[je])
abbrev zAs (x:jQ×Int×Int):V:=.tup [(true,[.f (eI x.1.1),.f (eI x.1.2.1),.f (eI x.1.2.2)]),(false,[.f (eI x.2.1)]),(false,[.f (eI x.2.2)])]
def zbq (me p v w f rest told:Int):jQ×Int×Int:=
 if(je me p v w f rest told).2.2≠0 then((0,0,0),0,(je me p v w f rest told).2.2)
 else if(Yu v w f p me (((je me p v w f rest told).2.1 - (je me p v w f rest told).1).tdiv 2) me).2≠0 then((0,0,0),0,(Yu v w f p me (((je me p v w f rest told).2.1 - (je me p v w f rest told).1).tdiv 2) me).2)
 else((Yu v w f p me (((je me p v w f rest told).2.1 - (je me p v w f rest told).1).tdiv 2) me).1,((je me p v w f rest told).2.1 - (je me p v w f rest told).1).tdiv 2,0)
theorem zic {me p v w f rest told:Int} (h:(je me p v w f rest told).2.2=0):flowB (je me p v w f rest told).1=true∧flowB (je me p v w f rest told).2.1=true:=by grind[je]
theorem zh3 (me p v w f rest told:Int):zu Tryz.prog 332 [gI me,gI p,gR v w f,gI rest,gI told] (zAs (zbq me p v w f rest told)):=by
 refine enx [.cell 10 47,.tmp 11,.tmp 12] Tryz.func332 fun X w0=>?_
 repeat'(first|(refine spl ?_ ?_<;>(intro hb;refine ne ?_))|(refine zl hR ?_;clear hR)|refine s1 ?_|exact True.intro|refine cal (zlK _ _ _ _ _ _ _) ?_|refine cal (zqa _ _) ?_|refine cal (zp5 _ _ _ _ _ _ _) ?_|(refine s2 ?_;try with_reducible intro R hR)|fail)
 all_goals(refine gz ?_;grind[zbq,zj6,zic])
theorem zcm (me p v w f rest told:Int):zu Tryz.prog 350 [gI me,gI p,gR v w f,gI rest,gI told] (zAs (zbq me p v w f rest told)):=by
 by_cases h0:(je me p v w f rest told).2.2=0
 ·have h1:=zic h0
  have h2:=ZQ h1.1
  have h3:=ZQ h1.2
  have h4:=yj (x:=(je me p v w f rest told).2.1 - (je me p v w f rest told).1) (by omega)
  have h5:=zyo ((je me p v w f rest told).2.1 - (je me p v w f rest told).1) (by omega)
  have h6:=yj (x:=((je me p v w f rest told).2.1 - (je me p v w f rest told).1).tdiv 2) (by omega)
  clear h1 h2 h3 h5
  refine enx [.cell 10 47,.tmp 11,.tmp 12] Tryz.func350 fun X w0=>?_
  repeat'(first|(refine spl ?_ ?_<;>(intro hb;refine ne ?_))|(refine zl hR ?_;clear hR)|refine s1 ?_|exact True.intro|refine cal (zhn _ _ _ _ _ _ _) ?_|refine cal (zeV _ _ _ _ _ _ _) ?_|(refine s2 ?_;try with_reducible intro R hR)|fail)
  all_goals(refine gz ?_;grind[zbq])
 ·refine enx [.cell 10 47,.tmp 11,.tmp 12] Tryz.func350 fun X w0=>?_
  repeat'(first|(refine spl ?_ ?_<;>(intro hb;refine ne ?_))|(refine zl hR ?_;clear hR)|refine s1 ?_|exact True.intro|refine cal (zhn _ _ _ _ _ _ _) ?_|refine cal (zeV _ _ _ _ _ _ _) ?_|(refine s2 ?_;try with_reducible intro R hR)|fail)
  all_goals(refine gz ?_;grind[zbq])
theorem zzG:zep Tryz.prog 68 [some .bool,some (.int .i64),some (.int .i64),some (.int .i64)]:=by
 have key: ∀us:Array Value,us.toList.map kd=[some .bool,some (.int .i64),some (.int .i64),some (.int .i64)]→∃(z:Bool) (a b c:Int),us= #[.bool z,.int .i64 a,.int .i64 b,.int .i64 c]:=fun us h=>by
  obtain⟨us⟩:=us
  match us,h with
  | [t,u,v,x],h=>
   simp only[List.map_cons,List.map_nil,List.cons.injEq,and_true]at h
   have one: ∀u:Value,kd u=some (.int .i64)→∃a:Int,u= .int .i64 a:=fun u hu=>by
    cases u<;>simp[kd]at hu
    exact⟨_,by rw[hu]⟩
   have oneB: ∀u:Value,kd u=some .bool→∃a:Bool,u= .bool a:=fun u hu=>by
    cases u<;>simp[kd]at hu
    exact⟨_,rfl⟩
   obtain⟨z,rfl⟩:=oneB t h.1
   obtain⟨a,rfl⟩:=one u h.2.1
   obtain⟨b,rfl⟩:=one v h.2.2.1
   obtain⟨c,rfl⟩:=one x h.2.2.2
   exact⟨z,a,b,c,rfl⟩
  |[],h=>simp at h
  |[_],h=>simp at h
  |[_,_],h=>simp at h
  |[_,_,_],h=>simp at h
  | _::_::_::_::_::_,h=>simp at h
 intro us vs r w hu hv hr x y
 obtain⟨z,a,b,c,rfl⟩:=key us hu
 obtain⟨z',a',b',c',rfl⟩:=key vs hv
 simp only[jo,Bool.and_true,Option.some.injEq]at hr
 subst hr
 refine⟨by simp[go_sem],by simp[go_sem],?_,?_⟩
 ·rw[run_eql_struct]
  by_cases h0:z=z'<;>by_cases h1:a=a'<;>by_cases h2:b=b'<;>by_cases h3:c=c'<;>simp[go_sem,run_equalIn_agg,run_equalIn_int,h0,h1,h2,h3]
 ·rw[run_neq_struct]
  by_cases h0:z=z'<;>by_cases h1:a=a'<;>by_cases h2:b=b'<;>by_cases h3:c=c'<;>simp[go_sem,run_equalIn_agg,run_equalIn_int,h0,h1,h2,h3]
attribute [push_cast] zzG
structure Ex where
 has:Bool
 val:Int
 org:Int
 age:Int
abbrev noEx:Ex:=⟨false,0,0,0⟩
abbrev gX (e:Ex):V:=.agg [.f (eB e.has),.f (eI e.val),.f (eI e.org),.f (eI e.age)]
theorem Ex.eta (e:Ex):(⟨e.has,e.val,e.org,e.age⟩:Ex)=e:=rfl
attribute [push_cast] Ex.eta
theorem zqx (x:Int):zu Tryz.prog 229 [gI x] (gB (flowB x)):=by
 refine enx [.tmp 2] Tryz.func229 fun X w0=>?_
 repeat'(first|(refine spl ?_ ?_<;>(intro hb;refine ne ?_))|(refine zl hR ?_;clear hR)|refine s1 ?_|exact True.intro|fail|(refine s2 ?_;try with_reducible intro R hR)|fail)
 all_goals(refine gz ?_;grind[flowB])
def yQ (e:Ex):Bool:=if e.has then flowB e.val&&decide (0≤e.org)&&decide (e.org<16)&&decide (0≤e.age)&&decide (e.age<64)else decide (e.val=0)&&decide (e.org=0)&&decide (e.age=0)
theorem zub (h:Bool) (v o g:Int):zu Tryz.prog 157 [gX ⟨h,v,o,g⟩] (gB (yQ ⟨h,v,o,g⟩)):=by
 refine enx [.tmp 2] Tryz.func157 fun X w0=>?_
 repeat'(first|(refine spl ?_ ?_<;>(intro hb;refine ne ?_))|(refine zl hR ?_;clear hR)|refine s1 ?_|exact True.intro|refine cal (zqx _) ?_|(refine s2 ?_;try with_reducible intro R hR)|fail)
 all_goals(refine gz ?_;grind[yQ])
theorem zn9 (h:Bool) (v o g:Int):zu Tryz.prog 119 [gX ⟨h,v,o,g⟩] (gB (yQ ⟨h,v,o,g⟩)):=by
 refine enx [.tmp 2] Tryz.func119 fun X w0=>?_
 repeat'(first|(refine spl ?_ ?_<;>(intro hb;refine ne ?_))|(refine zl hR ?_;clear hR)|refine s1 ?_|exact True.intro|fail|(refine s2 ?_;try with_reducible intro R hR)|fail)
 all_goals(refine gz ?_;grind[yQ,flowB])
def zao (id v:Int):Ex:=⟨true,v,id,0⟩
theorem zkV (id v:Int):zu Tryz.prog 221 [gI id,gI v] (gX (zao id v)):=by
 refine enx [.cell 4 68] Tryz.func221 fun X w0=>?_
 repeat'(first|(refine spl ?_ ?_<;>(intro hb;refine ne ?_))|(refine zl hR ?_;clear hR)|refine s1 ?_|exact True.intro|fail|(refine s2 ?_;try with_reducible intro R hR)|fail)
 all_goals(refine gz ?_;grind[zao])
theorem zff (id v:Int):zu Tryz.prog 311 [gI id,gI v] (gX (zao id v)):=by
 refine enx [.cell 4 68] Tryz.func311 fun X w0=>?_
 repeat'(first|(refine spl ?_ ?_<;>(intro hb;refine ne ?_))|(refine zl hR ?_;clear hR)|refine s1 ?_|exact True.intro|fail|(refine s2 ?_;try with_reducible intro R hR)|fail)
 all_goals(refine gz ?_;grind[zao])
def jR (id:Int) (e:Ex):Ex:=if e.has&&decide (e.org=id)then noEx else e
theorem Zy (id:Int) (h:Bool) (v o g:Int):zu Tryz.prog 220 [gI id,gX ⟨h,v,o,g⟩] (gX (jR id ⟨h,v,o,g⟩)):=by
 refine enx [.cell 4 68] Tryz.func220 fun X w0=>?_
 repeat'(first|(refine spl ?_ ?_<;>(intro hb;refine ne ?_))|(refine zl hR ?_;clear hR)|refine s1 ?_|exact True.intro|fail|(refine s2 ?_;try with_reducible intro R hR)|fail)
 all_goals(refine gz ?_;grind[jR])
theorem zar (id:Int) (h:Bool) (v o g:Int):zu Tryz.prog 310 [gI id,gX ⟨h,v,o,g⟩] (gX (jR id ⟨h,v,o,g⟩)):=by
 refine enx [.cell 4 68] Tryz.func310 fun X w0=>?_
 repeat'(first|(refine spl ?_ ?_<;>(intro hb;refine ne ?_))|(refine zl hR ?_;clear hR)|refine s1 ?_|exact True.intro|fail|(refine s2 ?_;try with_reducible intro R hR)|fail)
 all_goals(refine gz ?_;grind[jR])
def JY (e:Ex):Ex:=if !e.has||decide (64≤wr (e.age+1))then noEx else⟨e.has,e.val,e.org,wr (e.age+1)⟩
theorem zfH (h:Bool) (v o g:Int):zu Tryz.prog 321 [gX ⟨h,v,o,g⟩] (gX (JY ⟨h,v,o,g⟩)):=by
 refine enx [.cell 2 68] Tryz.func321 fun X w0=>?_
 repeat'(first|(refine spl ?_ ?_<;>(intro hb;refine ne ?_))|(refine zl hR ?_;clear hR)|refine s1 ?_|exact True.intro|fail|(refine s2 ?_;try with_reducible intro R hR)|fail)
 all_goals(refine gz ?_;grind[JY])
theorem zod (h:Bool) (v o g:Int):zu Tryz.prog 345 [gX ⟨h,v,o,g⟩] (gX (JY ⟨h,v,o,g⟩)):=by
 refine enx [.cell 2 68] Tryz.func345 fun X w0=>?_
 repeat'(first|(refine spl ?_ ?_<;>(intro hb;refine ne ?_))|(refine zl hR ?_;clear hR)|refine s1 ?_|exact True.intro|fail|(refine s2 ?_;try with_reducible intro R hR)|fail)
 all_goals(refine gz ?_;grind[JY])
def zb7 (a b:Int):Int:=if a<b then -1 else if b<a then 1 else 0
theorem zw8 (a:Int):zu Tryz.prog 362 [gI a] (gB false):=by
 refine enx [.tmp 2] Tryz.func362 fun X w0=>?_
 repeat'(first|(refine spl ?_ ?_<;>(intro hb;refine ne ?_))|(refine zl hR ?_;clear hR)|refine s1 ?_|exact True.intro|fail|(refine s2 ?_;try with_reducible intro R hR)|fail)
 all_goals(refine gz ?_;grind[])
theorem zAO (a:Int):zu Tryz.prog 363 [gI a] (gB false):=by
 refine enx [.tmp 2] Tryz.func363 fun X w0=>?_
 repeat'(first|(refine spl ?_ ?_<;>(intro hb;refine ne ?_))|(refine zl hR ?_;clear hR)|refine s1 ?_|exact True.intro|fail|(refine s2 ?_;try with_reducible intro R hR)|fail)
 all_goals(refine gz ?_;grind[])
theorem zoB (a b:Int):zu Tryz.prog 340 [gI a,gI b] (gI (zb7 a b)):=by
 refine enx [.tmp 4] Tryz.func340 fun X w0=>?_
 repeat'(first|(refine spl ?_ ?_<;>(intro hb;refine ne ?_))|(refine zl hR ?_;clear hR)|refine s1 ?_|exact True.intro|refine cal (zw8 _) ?_|(refine s2 ?_;try with_reducible intro R hR)|fail)
 all_goals(refine gz ?_;grind[zb7])
theorem zyC (a b:Int):zu Tryz.prog 341 [gI a,gI b] (gI (zb7 a b)):=by
 refine enx [.tmp 4] Tryz.func341 fun X w0=>?_
 repeat'(first|(refine spl ?_ ?_<;>(intro hb;refine ne ?_))|(refine zl hR ?_;clear hR)|refine s1 ?_|exact True.intro|refine cal (zAO _) ?_|(refine s2 ?_;try with_reducible intro R hR)|fail)
 all_goals(refine gz ?_;grind[zb7])
def zhy (s:Int) (a b:Ex):Bool:=
 if !a.has|| !b.has then b.has else if decide (a.val=b.val)then(if decide (a.age=b.age)then decide (b.org<a.org)else decide (b.age<a.age))else decide (wr (s*b.val)<wr (s*a.val))
theorem zpt (h:Bool) (v o g:Int) (h':Bool) (v' o' g':Int) (s:Int):zu Tryz.prog 344 [gX ⟨h,v,o,g⟩,gX ⟨h',v',o',g'⟩,gI s] (gB (zhy s ⟨h,v,o,g⟩ ⟨h',v',o',g'⟩)):=by
 refine enx [.tmp 6] Tryz.func344 fun X w0=>?_
 repeat'(first|(refine spl ?_ ?_<;>(intro hb;refine ne ?_))|(refine zl hR ?_;clear hR)|refine s1 ?_|exact True.intro|fail|(refine s2 ?_;try with_reducible intro R hR)|fail)
 all_goals(refine gz ?_;grind[zhy])
def Zc (s:Int) (a b:Ex):Ex:=if zhy s a b then b else a
theorem zbB (h:Bool) (v o g:Int) (h':Bool) (v' o' g':Int):zu Tryz.prog 309 [gX ⟨h,v,o,g⟩,gX ⟨h',v',o',g'⟩] (gX (Zc 1 ⟨h,v,o,g⟩ ⟨h',v',o',g'⟩)):=by
 refine enx [.cell 4 68] Tryz.func309 fun X w0=>?_
 repeat'(first|(refine spl ?_ ?_<;>(intro hb;refine ne ?_))|(refine zl hR ?_;clear hR)|refine s1 ?_|exact True.intro|refine cal (zpt _ _ _ _ _ _ _ _ _) ?_|(refine s2 ?_;try with_reducible intro R hR)|fail)
 all_goals(refine gz ?_;grind[Zc])
theorem YV (h:Bool) (v o g:Int) (h':Bool) (v' o' g':Int):zu Tryz.prog 312 [gX ⟨h,v,o,g⟩,gX ⟨h',v',o',g'⟩] (gX (Zc (-1) ⟨h,v,o,g⟩ ⟨h',v',o',g'⟩)):=by
 refine enx [.cell 4 68] Tryz.func312 fun X w0=>?_
 repeat'(first|(refine spl ?_ ?_<;>(intro hb;refine ne ?_))|(refine zl hR ?_;clear hR)|refine s1 ?_|exact True.intro|refine cal (zpt _ _ _ _ _ _ _ _ _) ?_|(refine s2 ?_;try with_reducible intro R hR)|fail)
 all_goals(refine gz ?_;grind[Zc])
structure Ch where
 nm:ByteArray
 ep:Int
 ma:Int
 al:Bool
 kd:Int
 sc:Int
abbrev zdf:Ch:=⟨⟨#[]⟩,0,0,false,0,0⟩
def Ys (c:Ch):List F:=[eS c.nm,eI c.ep,eI c.ma,eB c.al,eI c.kd,eI c.sc]
attribute [push_cast] Ys
abbrev cC (c:Ch):List C:=[.f (eS c.nm),.f (eI c.ep),.f (eI c.ma),.f (eB c.al),.f (eI c.kd),.f (eI c.sc)]
abbrev gC (c:Ch):V:=.agg (cC c)
abbrev gCs (l:List Ch):V:=.c (.f (.l 6 (l.map Ys)))
theorem Ch.eta (c:Ch):(⟨c.nm,c.ep,c.ma,c.al,c.kd,c.sc⟩:Ch)=c:=rfl
attribute [push_cast] Ch.eta
def jC (c:Ch):Bool:=jr c.nm&&decide (1≤c.ep)&&decide (c.ep≤1099511627776)&&nodeB c.ma&&zcQ c.kd&&JF c.kd c.sc
theorem zfn (n:ByteArray) (e m:Int) (a:Bool) (k s:Int) (hl:n.size<9223372036854775807):zu Tryz.prog 184 [gC ⟨n,e,m,a,k,s⟩] (gB (jC ⟨n,e,m,a,k,s⟩)):=by
 refine enx [.tmp 2] Tryz.func184 fun X w0=>?_
 repeat'(first|(refine spl ?_ ?_<;>(intro hb;refine ne ?_))|(refine zl hR ?_;clear hR)|refine s1 ?_|exact True.intro|refine rdb [] ?_|refine cad (zaf _ (by omega)) ?_|refine cal (zaf _ (by omega)) ?_|refine cad (zbt _ _) ?_|refine cal (zbt _ _) ?_|(refine s2 ?_;try with_reducible intro R hR)|fail)
 all_goals(refine gz ?_;grind[jC,nodeB,zcQ])
theorem zcz (n:ByteArray) (e m:Int) (a:Bool) (k s:Int) (n':ByteArray) (e' m':Int) (a':Bool) (k' s':Int):zu Tryz.prog 374 [gC ⟨n,e,m,a,k,s⟩,gC ⟨n',e',m',a',k',s'⟩] (gB (newR e m e' m')):=by
 refine enx [.tmp 4] Tryz.func374 fun X w0=>?_
 repeat'(first|(refine spl ?_ ?_<;>(intro hb;refine ne ?_))|(refine zl hR ?_;clear hR)|refine s1 ?_|exact True.intro|refine rdb [] ?_|(refine s2 ?_;try with_reducible intro R hR)|fail)
 all_goals(refine gz ?_;grind[newR])
def z5 (l:List Ch) (n:ByteArray):Ch×Bool:=match l with
 |[]=>(zdf,false)
 |c::l=>if c.nm.toList==n.toList then(c,true)else z5 l n
theorem za9 (n:ByteArray):z5 [] n=(zdf,false):=rfl
theorem jF (c:Ch) (l:List Ch) (n:ByteArray):z5 (c::l) n=if c.nm.toList==n.toList then(c,true)else z5 l n:=rfl
abbrev rCB (x:Ch×Bool):V:=.tup [(true,cC x.1),(false,[.f (eB x.2)])]
theorem zak (l:List Ch) (n:ByteArray) (hl:l.length<9223372036854775807):zu Tryz.prog 303 [gCs l,gS n] (rCB (z5 l n)):=by
 refine enx [.cell 4 99,.tmp 5] Tryz.func303 fun X w0=>?_
 repeat'(first|(refine spl ?_ ?_<;>(intro hb;refine ne ?_))|(refine zl hR ?_;clear hR)|refine s1 ?_|exact True.intro|((with_reducible refine zO ?_);refine frx (ι:=Unit) (l.length) (fun k _=>St.ofA [(0,gCs l),(1,gS n),(4,.loc 4 0),(6,gI k)] [(4,99,cC zdf)] []) (fun k _=>z5 l n=z5 (l.drop k) n) () ?_ (fun k x hJ hk R hR=>?_))|refine fnx (()) ?_ ?_|refine rdb [] ?_|refine rex [] ?_|(refine s2 ?_;try with_reducible intro R hR)|fail)
 all_goals(refine gz ?_;grind[za9,jF,zP])
theorem zbT (l:List Ch) (hl:l.length*64≤140737488355328):zu Tryz.prog 304 [gCs l] (gCs l):=by
 refine enx [.tmp 2] Tryz.func304 fun X w0=>?_
 repeat'(first|(refine spl ?_ ?_<;>(intro hb;refine ne ?_))|(refine zl hR ?_;clear hR)|refine s1 ?_|exact True.intro|fail|(refine s2 ?_;try with_reducible intro R hR)|fail)
def jX (d:Bool) (l:List Ch) (c:Ch):List Ch:=match l with
 |[]=>if d then []else [c]
 |x::l=>(if !d&& !Op.bytesLess x.nm.toList c.nm.toList then [c]else [])++(if x.nm.toList==c.nm.toList then []else [x])++jX (d|| !Op.bytesLess x.nm.toList c.nm.toList) l c
theorem YY (d:Bool) (c:Ch):jX d [] c=if d then []else [c]:=rfl
theorem y5 (d:Bool) (x:Ch) (l:List Ch) (c:Ch):jX d (x::l) c=(if !d&& !Op.bytesLess x.nm.toList c.nm.toList then [c]else [])++(if x.nm.toList==c.nm.toList then []else [x])++jX (d|| !Op.bytesLess x.nm.toList c.nm.toList) l c:=rfl
attribute [simp] Ys
theorem zwJ (l:List Ch) (n:ByteArray) (e m:Int) (a:Bool) (k s:Int) (hl:l.length≤1000000):zu Tryz.prog 305 [gCs l,gC ⟨n,e,m,a,k,s⟩] (gCs (jX false l ⟨n,e,m,a,k,s⟩)):=by
 generalize hc:(⟨n,e,m,a,k,s⟩:Ch)=c
 refine enx [.tmp 4] Tryz.func305 fun X w0=>?_
 repeat'(first|(refine spl ?_ ?_<;>(intro hb;refine ne ?_))|(refine zl hR ?_;clear hR)|refine s1 ?_|exact True.intro|((with_reducible refine zO ?_);refine zgC 5 90 99 6 ?_;refine frx (ι:=List Ch×Bool×Nat) (l.length) (fun k x=>St.ofA [(0,gCs l),(3,.loc 3 0),(4,.c (.f (.s (.slice none 0 0)))),(5,.c (.o 90)),(6,gB x.2.1),(7,gI k)] [(3,99,cC c)] [(90,x.2.2,99,6,x.1.map Ys)]) (fun k x=>jX false l c=x.1++jX x.2.1 (l.drop k) c∧x.1.length≤2*k) ([],false,90) ?_ (fun k x hJ hk R hR=>?_))|refine fnx ((x.1,true,90)) ?_ ?_|refine fnx ((x.1,false,90)) ?_ ?_|refine fnx ((x.1++[l[k]],true,44)) ?_ ?_|refine fnx ((x.1++[l[k]],false,44)) ?_ ?_|refine fnx ((x.1++[c],true,29)) ?_ ?_|refine fnx ((x.1++[c]++[l[k]],true,44)) ?_ ?_|refine rdb [] ?_|refine rex [] ?_|(refine s2 ?_;try with_reducible intro R hR)|fail)
 (all_goals(repeat(first|clear hR|clear hRA|clear hRn|clear hRr|clear hRe|clear hRL)))
 all_goals try simp only[List.take_zero,List.drop_zero,List.take_length,List.drop_length]
 all_goals first|omega|rfl|grind[YY,y5,zP,Ys]
section
attribute [local simp] cv
def qX (a:Int×Int) (n:Int):Int×Int:=if a.2=0 then Ym a.1 n (wr (a.1*n))else a
theorem JA (a:Int×Int) (n:Int):zA Tryz.prog 286 [.loc 0 0,gI n] [(0,242,[.f (eI (a).1),.f (eI (a).2)])] [] (.loc 0 0) [(0,242,[.f (eI (qX a n).1),.f (eI (qX a n).2)])] []:=by
 obtain⟨x,e⟩:=a
 by_cases h:e=0
 ·subst h
  have e1:qX (x,0) n=Ym x n (wr (x*n)):=rfl
  rw[e1]
  refine emx [.tmp 4] Tryz.func286 fun XX X G w0=>?_
  repeat'(first|(refine spl ?_ ?_<;>(intro hb;refine ne ?_))|(refine zl hR ?_;clear hR)|refine s1 ?_|exact True.intro|refine cal (zmf x n) ?_|(refine s2 ?_;try with_reducible intro R hR)|fail)
  all_goals exact fmx []
 ·have e1:qX (x,e) n=(x,e):=by simp[qX,h]
  rw[e1]
  refine emx [.tmp 4] Tryz.func286 fun XX X G w0=>?_
  repeat'(first|(refine spl ?_ ?_<;>(intro hb;refine ne ?_))|(refine zl hR ?_;clear hR)|refine s1 ?_|exact True.intro|(exfalso;simp at hb;exact h hb;done)|refine cal (zmf x n) ?_|(refine s2 ?_;try with_reducible intro R hR)|fail)
  all_goals exact fmx []
theorem zwN (a:Int×Int) (x s:Int):zA Tryz.prog 285 [.loc 0 0,gI x,gI s] [(0,242,[.f (eI (a).1),.f (eI (a).2)])] [] (.tup []) [(0,242,[.f (eI (qX a s).1),.f (eI (qX a s).2)])] []:=by
 refine emx [] Tryz.func285 fun XX X G w0=>?_
 repeat'(first|(refine spl ?_ ?_<;>(intro hb;refine ne ?_))|(refine zl hR ?_;clear hR)|refine s1 ?_|exact True.intro|refine cM [(0,0)] [] (JA a s) ?_|(refine s2 ?_;try with_reducible intro R hR)|fail)
 all_goals exact fmx []
theorem zrO (a:Int×Int) (x s:Int) (h:x=0∨x=1):zA Tryz.prog 287 [.loc 0 0,gI x,gI s] [(0,242,[.f (eI (a).1),.f (eI (a).2)])] [] (.tup []) [(0,242,[.f (eI (qX a s).1),.f (eI (qX a s).2)])] []:=by
 rcases h with rfl|rfl
 ·refine emx [] Tryz.func287 fun XX X G w0=>?_
  repeat'(first|(refine spl ?_ ?_<;>(intro hb;refine ne ?_))|(refine zl hR ?_;clear hR)|refine s1 ?_|exact True.intro|refine cM [(0,0)] [] (JA a s) ?_|(refine s2 ?_;try with_reducible intro R hR)|fail)
  all_goals exact fmx []
 ·refine emx [] Tryz.func287 fun XX X G w0=>?_
  repeat'(first|(refine spl ?_ ?_<;>(intro hb;refine ne ?_))|(refine zl hR ?_;clear hR)|refine s1 ?_|exact True.intro|refine cM [(0,0)] [] (JA a s) ?_|(refine s2 ?_;try with_reducible intro R hR)|fail)
  all_goals exact fmx []
theorem zrC (a:Int×Int) (x s:Int) (h0: ¬x=0) (h1: ¬x=1):zA Tryz.prog 287 [.loc 0 0,gI x,gI s] [(0,242,[.f (eI (a).1),.f (eI (a).2)])] [] (.tup []) [(0,242,[.f (eI (((a.1,49):Int×Int)).1),.f (eI (((a.1,49):Int×Int)).2)])] []:=by
 have e:qX (a.1,49) s=(a.1,49):=rfl
 refine emx [] Tryz.func287 fun XX X G w0=>?_
 repeat'(first|(refine spl ?_ ?_<;>(intro hb;refine ne ?_))|(refine zl hR ?_;clear hR)|refine s1 ?_|exact True.intro|(exfalso;simp at hb;first|exact h0 hb|exact h1 hb;done)|refine cM [(0,0)] [] (JA (a.1,49) s) ?_|(refine s2 ?_;try with_reducible intro R hR)|fail)
 all_goals exact fmx []
theorem zws (a:Int×Int) (x s:Int):zA Tryz.prog 288 [.loc 0 0,gI x,gI s] [(0,242,[.f (eI (a).1),.f (eI (a).2)])] [] (.tup []) [(0,242,[.f (eI (qX (qX a x) s).1),.f (eI (qX (qX a x) s).2)])] []:=by
 refine emx [] Tryz.func288 fun XX X G w0=>?_
 repeat'(first|(refine spl ?_ ?_<;>(intro hb;refine ne ?_))|(refine zl hR ?_;clear hR)|refine s1 ?_|exact True.intro|(refine cM [(0,0)] [] (JA a x) ?_;refine cM [(0,0)] [] (JA (qX a x) s) ?_)|(refine s2 ?_;try with_reducible intro R hR)|fail)
 all_goals exact fmx []
theorem zxF (a:Int×Int) (x s:Int):zA Tryz.prog 289 [.loc 0 0,gI x,gI s] [(0,242,[.f (eI (a).1),.f (eI (a).2)])] [] (.tup []) [(0,242,[.f (eI (qX a 1).1),.f (eI (qX a 1).2)])] []:=by
 refine emx [] Tryz.func289 fun XX X G w0=>?_
 repeat'(first|(refine spl ?_ ?_<;>(intro hb;refine ne ?_))|(refine zl hR ?_;clear hR)|refine s1 ?_|exact True.intro|refine cM [(0,0)] [] (JA a 1) ?_|(refine s2 ?_;try with_reducible intro R hR)|fail)
 all_goals exact fmx []
end
end Go.Proofs.YtbcbnfiedgnfpaaGreat
