import Derived.Test.YtbcbnfiedgnfpaaGreatZ10
import Derived.Test.YtbcbnfiedgnfpaaGreatZ18
import Derived.Test.YtbcbnfiedgnfpaaGreatZ08
set_option linter.unusedSimpArgs false
set_option linter.unusedVariables false
set_option maxRecDepth 100000
set_option maxHeartbeats 2000000
section
namespace Go.Dl
section
variable {P:Program} {X:Fr} {w0:World} {N:Nat} {S:St} {Q:Exit→St→Prop}
theorem zz0 {I:Nat→Prop} {J:YJ} {M n:Nat} {c:Code} {Q:Exit→Option Nat→St→Prop} (hM: ∀n O F W,J (some n) O F W→n≤M) (h:M<n):DY P I J N c Q (some n) S:=fun E a w hs=>absurd (hM n _ _ _ hs.own) (by omega)
theorem zqZ {α:Type} {y:α} {fe:α→List V} {g:Operand} {ps:Array Tmp} {assign body:Code} {f:FuncId} {ca:List W} (sl:List (Nat×V)) (bl:BL) (al:AL) (bn:List Nat) (hX:X.nm=false∨X.rd.isSome=true)
  (h0:zY X S (St.ofA sl bl al)) (hbn:(bn.all fun t=>(YX t bl).isSome)=true) (hB0:(X.B0.all fun t=>bn.contains t)=true) (hst:(sl.all fun p=>zgN bn p.2)=true)
  (hg:ev (St.ofA sl bl al) g= .clo f [] ca) (hca:zf9 ca=true) (hit:Qx P f (ca.map W.asV) (elL [y] fe) 0) (hps: ∀x,(fe x).length=ps.size) (hpN:(ps.toList.all fun p=>decide (p<N))=true)
  (round: ∀XX I0 G l w1,(∀t,t∈X.B0→G t=X.G t)→∀RA:Exit→St→Prop,
   RAn RA (fun S1=>∀XX I0 w2 RQ,RQn (ι:=Unit) RQ ⟨XX,I0,bn,G,some l,true⟩ (fun _=>False) (fun _=>St.ofA [] bl al)→RQr RQ (fun S=>Q .ret ⟨fun t=>lkV t sl,S.blks,S.arrs⟩)→RQe RQ (fun id S=>Q (.exit id) ⟨fun t=>lkV t sl,S.blks,S.arrs⟩)→DW P ⟨XX,I0,bn,G,some l,true⟩ w2 N body RQ S1)→
   DW P ⟨XX,I0,bn,G,some l,true⟩ w1 N assign RA ⟨zdz ps.toList (fe y) (fun t=>lkV t sl),fun t=>YX t bl,fun a=>Ji a al⟩):DW P X w0 N (.rangeFunc g ps assign body) Q S:=by
 refine zhL sl (fun _ (_:Unit)=>bl) (fun _ _=>al) (fun k _=>k=0) () 0 bn hX h0 rfl (fun k x h=>Nat.le_of_eq h) hbn hB0 hst hg hca hit (fun k vs h=>?_) hpN (fun k x vs hr hel XX I0 G l w1 hG=>?_) fun k x hr hel=>?_
 ·obtain⟨_,rfl⟩:=zfI h
  exact hps _
 ·subst hr
  cases hel
  refine round XX I0 G l w1 hG _ fun S1 h=>?_
  intro XX I0 w2
  exact h XX I0 w2 _ (fun x' S hrx hw=>hrx.elim) (fun S hq=>⟨S,za0,hq⟩) fun id S hq=>⟨S,za0,hq⟩
 ·subst hr
  cases hel
end
end Go.Dl
namespace Go.Proofs.YtbcbnfiedgnfpaaGreat
open Go.Dl
set_option maxRecDepth 100000
set_option maxHeartbeats 2000000
attribute [local irreducible] DW yE zY zA zu zky
attribute [local push_cast] zZ qF qC zN zM zD zE qH qE qz Go.Dl.qY yT qy List.mem_cons List.not_mem_nil or_false forall_eq false_implies implies_true
abbrev zAC (x:List Int×Int×Int):V:=.tup [(false,[.f (.l 1 (x.1.map Z3))]),(false,[.f (eI x.2.1)]),(false,[.f (eI x.2.2)])]
theorem zf5 (l:List Int) (v:Int):yX l v= -1∨∃k:Nat,k<l.length∧yX l v=k:=by
 have:=JN l v
 rcases Int.lt_or_le (yX l v) 0 with h|h
 ·left;omega
 ·right;exact⟨(yX l v).toNat,by omega,by omega⟩
def ZI (l:List Int) (turn v:Int):List Int×Int×Int:=
 if yX l v<0 then(l,turn,44)else
  let t1:=if yX l v<turn then wr (turn - 1)else turn
  (l.take (yX l v).toNat++l.drop ((yX l v).toNat+1),if((l.length - 1:Nat):Int)≤t1 then 0 else t1,0)
theorem JC (l:List Int) (turn v:Int) (hl:l.length≤1048576):zu Tryz.prog 165 [gZ l,gI turn,gI v] (zAC (ZI l turn v)):=by
 have hl2:l.length*8≤140737488355328:=by omega
 have hi0:=zoM l v (by omega)
 rcases zf5 l v with hi|⟨k,hk,hi⟩<;>rw[hi]at hi0
 ·refine enx [.tmp 6,.tmp 7,.tmp 8] Tryz.func165 fun X w0=>?_
  repeat'(first|(refine spl ?_ ?_<;>(intro hb;refine ne ?_))|(refine zl hR ?_;clear hR)|refine s1 ?_|exact True.intro|refine cM [] [(0,12)] (zgl l hl2) ?_|refine cld (hi0) ?_|(refine s2 ?_;try with_reducible intro R hR)|fail)
  all_goals(refine gz ?_;grind[ZI])
 ·have e1:=yj (x:=(k:Int)+1) (by omega)
  refine enx [.tmp 6,.tmp 7,.tmp 8] Tryz.func165 fun X w0=>?_
  repeat'(first|(refine spl ?_ ?_<;>(intro hb;refine ne ?_))|(refine zl hR ?_;clear hR)|refine s1 ?_|exact True.intro|refine cM [] [(0,12)] (zgl l hl2) ?_|refine cld (hi0) ?_|refine cM [] [(0,12)] (zz4 (l.map Z3) k _ rfl (by simpa using hk) (by simp;omega)) ?_|(refine s2 ?_;try with_reducible intro R hR)|fail)
  (all_goals(repeat(first|clear hR|clear hRA|clear hRn|clear hRr|clear hRe|clear hRL)))
  all_goals grind[ZI]
theorem zaB (l:List Int) (turn v:Int) (hl:l.length≤1048576):zu Tryz.prog 170 [gZ l,gI turn,gI v] (zAC (ZI l turn v)):=by
 have hl2:l.length*8≤140737488355328:=by omega
 have hi0:=zdn l v (by omega)
 rcases zf5 l v with hi|⟨k,hk,hi⟩<;>rw[hi]at hi0
 ·refine enx [.tmp 6,.tmp 7,.tmp 8] Tryz.func170 fun X w0=>?_
  repeat'(first|(refine spl ?_ ?_<;>(intro hb;refine ne ?_))|(refine zl hR ?_;clear hR)|refine s1 ?_|exact True.intro|refine cal (hi0) ?_|refine cal (znL l hl2) ?_|(refine s2 ?_;try with_reducible intro R hR)|fail)
  all_goals(refine gz ?_;grind[ZI])
 ·have e1:IntKind.i64.wrap ((k:Int)+1)=((k+1:Nat):Int):=by rw[IntKind.wrap_i64];omega
  refine enx [.tmp 6,.tmp 7,.tmp 8] Tryz.func170 fun X w0=>?_
  repeat'(first|(refine spl ?_ ?_<;>(intro hb;refine ne ?_))|(refine zl hR ?_;clear hR)|refine s1 ?_|exact True.intro|refine cal (hi0) ?_|(refine s2 ?_;try with_reducible intro R hR)|fail)
  (all_goals(repeat(first|clear hR|clear hRA|clear hRn|clear hRr|clear hRe|clear hRL)))
  all_goals grind[ZI]
abbrev zAX (x:Int×Int×Bool):V:=.tup [(false,[.f (eI x.1)]),(false,[.f (eI x.2.1)]),(false,[.f (eB x.2.2)])]
def yR (l:List Int) (turn:Int):Int×Int×Bool:=
 if l.length=0 then(0,turn,false)else(l.getD turn.toNat 0,(((turn.toNat+1) % l.length:Nat):Int),true)
theorem zpv {k n:Nat} (hk:k<n) (hn:n≤1048576):Int.tmod (((k+1:Nat)):Int) (n:Int)=(((k+1) % n:Nat):Int):=by
 rw[Int.tmod_eq_emod_of_nonneg (by omega)]
 exact(Int.natCast_emod _ _).symm
theorem za3 (l:List Int) (turn:Int) (hl:l.length≤1048576) (ht:l.length=0∨0≤turn∧turn<l.length):zu Tryz.prog 248 [gZ l,gI turn] (zAX (yR l turn)):=by
 rcases ht with h0|⟨h0,h1⟩
 ·refine enx [.tmp 4,.tmp 5,.tmp 6] Tryz.func248 fun X w0=>?_
  repeat'(first|(refine spl ?_ ?_<;>(intro hb;refine ne ?_))|(refine zl hR ?_;clear hR)|refine s1 ?_|exact True.intro|refine rdb [] ?_|(refine s2 ?_;try with_reducible intro R hR)|fail)
  all_goals(refine gz ?_;grind[yR])
 ·obtain⟨k,rfl⟩: ∃k:Nat,turn=k:=⟨turn.toNat,by omega⟩
  have hk:k<l.length:=by omega
  have e1:IntKind.i64.wrap ((k:Int)+1)=((k+1:Nat):Int):=by rw[IntKind.wrap_i64];omega
  have e2:=zpv hk hl
  have hne: ¬((l.length:Int)=0):=by omega
  refine enx [.tmp 4,.tmp 5,.tmp 6] Tryz.func248 fun X w0=>?_
  repeat'(first|(refine spl ?_ ?_<;>(intro hb;refine ne ?_))|(refine zl hR ?_;clear hR)|refine s1 ?_|exact True.intro|refine rdb [] ?_|refine rex [] ?_|(refine s2 ?_;try with_reducible intro R hR)|fail)
  all_goals(refine gz ?_;grind[yR])
theorem zpO (l:List Int) (turn:Int):zu Tryz.prog 260 [gZ l,gI turn] (.clo 322 [] [.rd [eI turn],.rd [.l 1 (l.map Z3)]]):=by
 refine enx [.tmp 4] Tryz.func260 fun X w0=>?_
 repeat'(first|(refine spl ?_ ?_<;>(intro hb;refine ne ?_))|(refine zl hR ?_;clear hR)|refine s1 ?_|exact True.intro|(refine fzx 2 ?_;refine fzx 3 ?_;refine jE ?_)|(refine s2 ?_;try with_reducible intro R hR)|fail)
theorem zvq (l:List Int) (k:Nat) (hk:k<l.length) (hl:l.length≤1048576):Qx Tryz.prog 322 [.rd [eI k],.rd [.l 1 (l.map Z3)]] (elL [(l[k],(((k+1) % l.length:Nat):Int))] gE) 0:=by
 have e1:IntKind.i64.wrap ((k:Int)+1)=((k+1:Nat):Int):=by rw[IntKind.wrap_i64];omega
 have e2:=zpv hk hl
 have hne: ¬((l.length:Int)=0):=by omega
 refine Qh Tryz.func322 rfl (by decide) (by simp[Tryz.ntmps322]) rfl (fun I J yl hJ hY hM=>?_)
 repeat'(first|(refine spl ?_ ?_<;>(intro hb;refine ne ?_))|(refine ZC hR ?_;clear hR)|refine t1 ?_|exact True.intro|((with_reducible first|refine Qj ?_|refine Qk ?_);intro n hn;cases hn)|(refine zz0 hM (by decide))|(with_reducible refine zkm ?_)|(with_reducible refine zki ?_)|(refine qM hY rfl rfl (by rfl) rfl (by simp only[push_cast,seval, *];exact rfl) (by rfl) ?_ ?_<;>simp only[push_cast,seval, *])|(refine t2 ?_;try with_reducible intro R hR)|fail)
 all_goals exact absurd (by simpa using hb) hne
theorem zxI (turn:Int):Qx Tryz.prog 322 [.rd [eI turn],.rd [.l 1 ([].map Z3)]] (elL ([]:List (Int×Int)) gE) 0:=by
 refine Qh Tryz.func322 rfl (by decide) (by simp[Tryz.ntmps322]) rfl (fun I J yl hJ hY hM=>?_)
 repeat'(first|(refine spl ?_ ?_<;>(intro hb;refine ne ?_))|(refine ZC hR ?_;clear hR)|refine t1 ?_|exact True.intro|((with_reducible first|refine Qj ?_|refine Qk ?_);intro n hn;cases hn)|(with_reducible refine zkm ?_)|(with_reducible refine zki ?_)|(refine t2 ?_;try with_reducible intro R hR)|fail)
 all_goals first|rfl|(exfalso;simp at hb;done)
theorem Js (l:List Int) (turn:Int) (hl:l.length≤1048576) (ht:l.length=0∨0≤turn∧turn<l.length):zu Tryz.prog 186 [gZ l,gI turn] (zAX (yR l turn)):=by
 rcases ht with h0|⟨h0,h1⟩
 ·obtain rfl:=List.eq_nil_of_length_eq_zero h0
  refine enx [.cell 4 3,.cell 5 3,.cell 6 4] Tryz.func186 fun X w0=>?_
  repeat'(first|(refine spl ?_ ?_<;>(intro hb;refine ne ?_))|(refine zl hR ?_;clear hR)|refine s1 ?_|exact True.intro|refine cal (zpO [] turn) ?_|(first|(refine zjx (by assumption) ?_;intro XX I0 w2 RQ hRn hRr hRe)|refine ziM (by assumption) ?_|refine zjJ (by assumption) ?_)|(exact absurd hkk (by simp))|refine Zw (ι:=Unit) [(1,gI turn),(4,.loc 4 0),(5,.loc 5 0),(6,.loc 6 0),(11,.clo 322 [] [.rd [eI turn],.rd [.l 1 ([].map Z3)]])] (fun _ _=>[(4,3,[.f (eI 0)]),(5,3,[.f (eI 0)]),(6,4,[.f (eB false)])]) (fun _ _=>[]) (fun k _=>True) () [4,5,6] (.inl rfl) (by(refine zp rfl ?_ ?_ ?_<;>simp);done) ?_ (by rfl) (by rfl) (by rfl) (by rfl) (by rfl) (zxI turn) (fun _=>by rfl) (by decide) (fun k x hkk hqx XX I0 Gr lr w1 hG RA hRA=>?_) (fun x hqx=>?_)|(refine s2 ?_;try with_reducible intro R hR)|fail)
  all_goals(refine gz ?_;grind[yR])
 ·obtain⟨k,rfl⟩: ∃k:Nat,turn=k:=⟨turn.toNat,by omega⟩
  have hk:k<l.length:=by omega
  refine enx [.cell 4 3,.cell 5 3,.cell 6 4] Tryz.func186 fun X w0=>?_
  repeat'(first|(refine spl ?_ ?_<;>(intro hb;refine ne ?_))|(refine zl hR ?_;clear hR)|refine s1 ?_|exact True.intro|refine cal (zpO l k) ?_|(first|(refine zjx (by assumption) ?_;intro XX I0 w2 RQ hRn hRr hRe)|refine ziM (by assumption) ?_|refine zjJ (by assumption) ?_)|refine zqZ [(1,gI k),(4,.loc 4 0),(5,.loc 5 0),(6,.loc 6 0),(11,.clo 322 [] [.rd [eI k],.rd [.l 1 (l.map Z3)]])] [(4,3,[.f (eI 0)]),(5,3,[.f (eI 0)]),(6,4,[.f (eB false)])] [] [4,5,6] (.inl rfl) (by(refine zp rfl ?_ ?_ ?_<;>simp);done) (by rfl) (by rfl) (by rfl) (by rfl) (by rfl) (zvq l k hk hl) (fun _=>by rfl) (by decide) (fun XX I0 Gr lr w1 hG RA hRA=>?_)|(refine s2 ?_;try with_reducible intro R hR)|fail)
  all_goals(refine gz ?_;grind[yR])
end Go.Proofs.YtbcbnfiedgnfpaaGreat
end
