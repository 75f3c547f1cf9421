import Derived.Test.YtbcbnfiedgnfpaaGreatZ25
import Derived.Test.YtbcbnfiedgnfpaaGreatZ17
set_option linter.unusedSimpArgs false
set_option linter.unusedVariables false
set_option maxRecDepth 100000
set_option maxHeartbeats 2000000
namespace Go.Proofs.YtbcbnfiedgnfpaaGreat
open Go.Dl
attribute [local irreducible] DW yE zY zA zu zky
attribute [local push_cast] zZ qF qC zN zM zD zE qH qE qz Go.Dl.qY yT qy List.mem_cons List.not_mem_nil or_false forall_eq false_implies implies_true
def zgz (l:List It) (k:Nat):Option ByteArray:=(l.take k).getLast?.map (·.c.nm)
theorem zfi (l:List It):zgz l 0=none:=rfl
theorem JK {l:List It} {k:Nat} (h:k<l.length):zgz l (k+1)=some l[k].c.nm:=by rw[zgz,qJ h,List.getLast?_concat];rfl
theorem zhg (o:Option ByteArray):ZV o []=true:=rfl
def hdB (kd fr to bt lf ec el:Int):Bool:=decide (1≤kd)&&decide (kd≤5)&&nodeB fr&&nodeB to&& !decide (fr=to)&&Zo bt 1 1099511627776&&Zo lf 0 1099511627776&&
 (if kd=1 then decide (ec=0)&&decide (el=0)else Zo ec 1 1099511627776&&Zo el 0 1099511627776)
theorem zph (kd fr to bt lf ec el:Int) (l:List It):jb ⟨kd,fr,to,bt,lf,ec,el,l⟩=(hdB kd fr to bt lf ec el&&(if kd=3∨kd=4 then decide (l.length≤8)&&ZV none l else decide (l.length=0))):=rfl
theorem zaQ (p:qO) (hp:PkOk p):zu Tryz.prog 57 [ZJ p] (gB (jb p)):=by
 obtain⟨kd,fr,to,bt,lf,ec,el,l⟩:=p
 obtain⟨hl,hn⟩:=hp
 simp only at hl hn
 rw[zph]
 refine enx [.tmp 2] Tryz.func57 fun X w0=>?_
 repeat'(first|(refine spl ?_ ?_<;>(intro hb;refine ne ?_))|(refine zl hR ?_;clear hR)|refine s1 ?_|exact True.intro|refine cal (zbH _) ?_|refine cal (QH _ _ _) ?_|(((with_reducible refine zW ?_);refine rgx (ι:=Unit) (l.length) (fun k _=>St.ofA [(1,.loc 1 0),(78,zCm l),(79,gI l.length),(80,gI k)] [(1,30,cPk ⟨kd,fr,to,bt,lf,ec,el,l⟩)] []) (fun k _=>ZV none l=ZV (zgz l k) (l.drop k)) () ?_ (fun k x hJ hk=>?_) (fun x hJ=>?_));rotate_left;rcases Nat.eq_zero_or_pos k with rfl|hk0;rotate_left;obtain⟨j,hj⟩: ∃j,j+1=k:=⟨k - 1,by omega⟩;have hp:zgz l k=some (l[j]'(by omega)).c.nm:=(by subst hj;exact JK _);have hjl:j<l.length:=(by omega);have e1:IntKind.i64.wrap ((k:Int) - 1)=j:=(by rw[IntKind.wrap_i64];omega))|refine rdb [] ?_|refine cad (zfb l[k] (hn _ (List.getElem_mem _))) ?_|refine cad (zfb l[0] (hn _ (List.getElem_mem _))) ?_|refine rnx (()) ?_|(refine s2 ?_;try with_reducible intro R hR)|fail)
 ((all_goals(repeat(first|clear hR|clear hRA|clear hRn|clear hRr|clear hRe|clear hRL)));all_goals(try simp only[List.take_zero,List.drop_zero,List.take_length,List.drop_length]);all_goals(try simp only[hdB,Zo,Bool.not_eq_true',Bool.not_eq_false',Bool.and_eq_true,Bool.and_eq_false_iff,Bool.or_eq_true,Bool.or_eq_false_iff,decide_eq_true_eq,decide_eq_false_iff_not,beq_iff_eq,bne_iff_ne,ne_eq,beq_eq_false_iff_ne,bne_eq_false_iff_eq,Int.not_lt,Int.not_le,gt_iff_lt,ge_iff_le]at*);all_goals(try refine congrArg F.s (congrArg Value.bool ?_)))
 all_goals(first|grind[zhg,zbI,zfi,JK,zP])
theorem Zz (p:qO) (hp:PkOk p):zu Tryz.prog 43 [ZJ p] (gB (jb p)):=by
 obtain⟨kd,fr,to,bt,lf,ec,el,l⟩:=p
 obtain⟨hl,hn⟩:=hp
 simp only at hl hn
 rw[zph]
 refine enx [.tmp 2] Tryz.func43 fun X w0=>?_
 repeat'(first|(refine spl ?_ ?_<;>(intro hb;refine ne ?_))|(refine zl hR ?_;clear hR)|refine s1 ?_|exact True.intro|refine cal (zbO _) ?_|refine cal (QP _ _ _) ?_|((with_reducible refine zO ?_);refine frx (ι:=Unit) (l.length) (fun k _=>St.ofA [(1,.loc 1 0),(3,gI k)] [(1,30,cPk ⟨kd,fr,to,bt,lf,ec,el,l⟩)] []) (fun k _=>ZV none l=ZV (zgz l k) (l.drop k)) () ?_ (fun k x hJ hk R hR=>?_))|(have hkl:k<l.length:=hb;have hnk:=hn _ (List.getElem_mem hkl);rcases Nat.eq_zero_or_pos k with rfl|hk0;all_goals(first|(obtain⟨j,hj⟩: ∃j,j+1=k:=⟨k - 1,by omega⟩;have hp:zgz l k=some (l[j]'(by omega)).c.nm:=(by subst hj;exact JK _);have hjl:j<l.length:=(by omega);have e1:IntKind.i64.wrap ((k:Int) - 1)=j:=(by rw[IntKind.wrap_i64];omega);refine rdb [] ?_)|refine rdb [] ?_))|refine cad (zhX l[k] (hn _ (List.getElem_mem _))) ?_|refine cad (zhX l[0] (hn _ (List.getElem_mem _))) ?_|refine fnx (()) ?_ ?_|(refine s2 ?_;try with_reducible intro R hR)|fail)
 ((all_goals(repeat(first|clear hR|clear hRA|clear hRn|clear hRr|clear hRe|clear hRL)));all_goals(try simp only[List.take_zero,List.drop_zero,List.take_length,List.drop_length]);all_goals(try simp only[hdB,Zo,Bool.not_eq_true',Bool.not_eq_false',Bool.and_eq_true,Bool.and_eq_false_iff,Bool.or_eq_true,Bool.or_eq_false_iff,decide_eq_true_eq,decide_eq_false_iff_not,beq_iff_eq,bne_iff_ne,ne_eq,beq_eq_false_iff_ne,bne_eq_false_iff_eq,Int.not_lt,Int.not_le,gt_iff_lt,ge_iff_le]at*);all_goals(try refine congrArg F.s (congrArg Value.bool ?_)))
 all_goals(first|grind[zhg,zbI,zfi,JK,zP])
end Go.Proofs.YtbcbnfiedgnfpaaGreat
