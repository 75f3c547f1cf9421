import Derived.Test.YtbcbnfiedgnfpaaGreatZ28
set_option linter.unusedSimpArgs false
set_option linter.unusedVariables false
set_option maxRecDepth 100000
set_option maxHeartbeats 2000000
namespace Go.Proofs.YtbcbnfiedgnfpaaGreat
open Go.Dl
attribute [local irreducible] DW yE zY zA zu zky
attribute [local push_cast] zZ qF qC zN zM zD zE qH qE qz Go.Dl.qY yT qy List.mem_cons List.not_mem_nil or_false forall_eq false_implies implies_true
section
attribute [local simp] yS
theorem zmE (n:zQ) (p:Int) (h:zy n) (hp:hasP p n.hv=true):zu Tryz.prog 81 [jv n,gI p,gB true] (.c (.f (.l 19 ((qa n p true).map yS)))):=by
 have hq:(findH p n.hv).2=true:=hp
 have hln:=Z6 n p true
 have hch:=h.nok.ch
 have h44:QQ 4=false:=rfl
 refine enx [.tmp 6] Tryz.func81 fun X w0=>?_
 repeat'(first|(refine spl ?_ ?_<;>(intro hb;refine ne ?_))|(refine zl hR ?_;clear hR)|refine s1 ?_|exact True.intro|refine cal (ql n.hv p h.hok) ?_|(((with_reducible refine zO ?_);refine zgC 9 90 136 19 ?_;refine frx (ι:=List It×Nat) (n.ch.length) (fun k x=>St.ofA [(1,gI p),(2,gB true),(3,.loc 3 0),(7,.loc 7 0),(9,.c (.o 90)),(10,gI k)] [(3,27,cNd n),(7,43,cH (findH p n.hv).1)] [(90,x.2,136,19,x.1.map yS)]) (fun k x=>(qa n p true).take k=x.1) ([],90) ?_ (fun k x hJ hk R hR=>?_)))|(with_reducible refine qn ?_;have hkl:k<n.ch.length:=(by omega);have hin:n.ch[k]∈n.ch:=List.getElem_mem hkl;have hxl:x.1.length=k:=(by rw[←hJ,List.length_take];omega);have hwi:=h.inp_wr hin;rcases YG h hin (findH p n.hv).1 p true with⟨c1,c9⟩|⟨c1,c2,c9⟩|⟨c1,c2,c3,c4,⟨c5,c9⟩|⟨c5,c6,c9⟩|⟨c5,c6,c9⟩⟩;rotate_left 2;exact absurd c5 (by decide))|refine rdb [] ?_|refine rex [] ?_|((with_reducible refine zL fun R hR=>?_);refine rex [] ?_)|refine cal (zah _ _ _ _ _ _ _ (jq h p)) ?_|refine cal (JH _) ?_|refine cal (zaG _ n.ch[k].inp n.hv n.ch[k].c.nm p h.hok hwi) ?_|(refine qG ((x.1++[ZB n (findH p n.hv).1 p true n.ch[k]],92)) ?_ ?_ ?_ ?_;(focus((refine zp rfl ?_ ?_ ?_<;>simp<;>simp[noEx, *]);done));(focus(simp only[push_cast,seval, *];done)))|(refine s2 ?_;try with_reducible intro R hR)|fail)
 all_goals(refine gz ?_;grind[zb3,maxLen])
theorem Qf (n:zQ) (p:Int) (h:zy n) (hp:hasP p n.hv=true):zu Tryz.prog 81 [jv n,gI p,gB false] (.c (.f (.l 19 ((qa n p false).map yS)))):=by
 have hq:(findH p n.hv).2=true:=hp
 have hln:=Z6 n p false
 have hch:=h.nok.ch
 have h44:QQ 4=false:=rfl
 refine enx [.tmp 6] Tryz.func81 fun X w0=>?_
 repeat'(first|(refine spl ?_ ?_<;>(intro hb;refine ne ?_))|(refine zl hR ?_;clear hR)|refine s1 ?_|exact True.intro|refine cal (ql n.hv p h.hok) ?_|(((with_reducible refine zO ?_);refine zgC 9 90 136 19 ?_;refine frx (ι:=List It×Nat) (n.ch.length) (fun k x=>St.ofA [(1,gI p),(2,gB false),(3,.loc 3 0),(7,.loc 7 0),(9,.c (.o 90)),(10,gI k)] [(3,27,cNd n),(7,43,cH (findH p n.hv).1)] [(90,x.2,136,19,x.1.map yS)]) (fun k x=>(qa n p false).take k=x.1) ([],90) ?_ (fun k x hJ hk R hR=>?_)))|(with_reducible refine qn ?_;have hkl:k<n.ch.length:=(by omega);have hin:n.ch[k]∈n.ch:=List.getElem_mem hkl;have hxl:x.1.length=k:=(by rw[←hJ,List.length_take];omega);have hwi:=h.inp_wr hin;rcases YG h hin (findH p n.hv).1 p false with⟨c1,c9⟩|⟨c1,c2,c9⟩|⟨c1,c2,c3,c4,⟨c5,c9⟩|⟨c5,c6,c9⟩|⟨c5,c6,c9⟩⟩;rotate_left 3;exact absurd c5 (by decide);exact absurd c5 (by decide))|refine rdb [] ?_|refine rex [] ?_|((with_reducible refine zL fun R hR=>?_);refine rex [] ?_)|refine cal (zah _ _ _ _ _ _ _ (jq h p)) ?_|refine cal (JH _) ?_|refine cal (zaG _ n.ch[k].inp n.hv n.ch[k].c.nm p h.hok hwi) ?_|(refine qG ((x.1++[ZB n (findH p n.hv).1 p false n.ch[k]],92)) ?_ ?_ ?_ ?_;(focus((refine zp rfl ?_ ?_ ?_<;>simp<;>simp[noEx, *]);done));(focus(simp only[push_cast,seval, *];done)))|(refine s2 ?_;try with_reducible intro R hR)|fail)
 all_goals(refine gz ?_;grind[zb3,maxLen])
theorem zmW (n:zQ) (p:Int) (h:zy n) (hp:hasP p n.hv=true):zu Tryz.prog 34 [jv n,gI p] (.c (.f (.l 19 ((qa n p true).map yS)))):=by
 refine enx [.tmp 4] Tryz.func34 fun X w0=>?_
 repeat'(first|(refine spl ?_ ?_<;>(intro hb;refine ne ?_))|(refine zl hR ?_;clear hR)|refine s1 ?_|exact True.intro|refine cal (zmE n p h hp) ?_|(refine s2 ?_;try with_reducible intro R hR)|fail)
end
end Go.Proofs.YtbcbnfiedgnfpaaGreat
