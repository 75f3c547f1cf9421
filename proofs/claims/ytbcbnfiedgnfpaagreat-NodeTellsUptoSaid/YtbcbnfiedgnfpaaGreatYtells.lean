/- For every input that a machine can hold (the '..UptoSaid' form: all that the arguments reach weighs at most 1048576) the Go function eddylaw20.NodeTells of the given program returns true, never panics, and changes nothing that was there before. No further condition. -/
import Derived.Test.YtbcbnfiedgnfpaaGreatZ52
set_option linter.unusedSimpArgs false
set_option linter.unusedVariables false
set_option maxRecDepth 100000
set_option maxHeartbeats 2000000
namespace Go.Proofs.YtbcbnfiedgnfpaaGreat.nodeTells
open Go.Dl Go.ChangeShapes Go.WideShapes Go.ChangeAt Go.RowKit Go.Joins Go.Deep Go.Ed
attribute [local irreducible] DW yE zY zA zu zky
attribute [local push_cast] zZ qF qC zN zM zD zE qH qE qz Go.Dl.qY yT qy List.mem_cons List.not_mem_nil or_false forall_eq false_implies implies_true
section
attribute [local simp] yS
theorem zDc (n:zQ) (p:Int) (h:zy n) (hp:hasP p n.hv=false) (hi:I64 p):zu Tryz.prog 80 [jv n,gI p,gB true] (.c (.f (.l 19 ((qa n p true).map yS)))):=by
 have hfi:=zfy hp
 have e0: ∀nm,findL nm zbr.lines=(0,0,0):=fun _=>rfl
 have hln:=Z6 n p true
 have hch:=h.nok.ch
 refine enx [.tmp 6] Tryz.func80 fun X w0=>?_
 repeat'(first|(refine spl ?_ ?_<;>(intro hb;refine ne ?_))|(refine zl hR ?_;clear hR)|refine s1 ?_|exact True.intro|refine cal (jc n.hv p h.hok h.srt h.rng hi) ?_|(((with_reducible refine zW ?_);refine zgC 9 90 136 19 ?_;refine rgx (ι:=List It×Nat) (n.ch.length) (fun k x=>St.ofA [(1,gI p),(2,gB true),(3,.loc 3 0),(7,.loc 7 0),(8,gB false),(9,.c (.o 90)),(23,j8 n.ch),(24,gI n.ch.length),(25,gI k)] [(3,27,cNd n),(7,43,cH zbr)] [(90,x.2,136,19,x.1.map yS)]) (fun k x=>(qa n p true).take k=x.1) ([],90) ?_ (fun k x hJ hk=>?_) (fun x hJ=>?_));rotate_left;have hkl:k<n.ch.length:=hk;have hin:n.ch[k]∈n.ch:=List.getElem_mem hkl;have hxl:x.1.length=k:=(by rw[←hJ,List.length_take];omega);rcases YG h hin zbr p true with⟨c1,c9⟩|⟨c1,c2,c9⟩|⟨c1,c2,c3,c4,⟨c5,c9⟩|⟨c5,c6,c9⟩|⟨c5,c6,c9⟩⟩;rotate_left 2;exact absurd c5 (by decide);all_goals(try simp only[e0]at c9))|(with_reducible refine qR rfl ?_)|(with_reducible refine qT ?_)|(dsimp only[YT])|refine rdb [] ?_|refine rex [] ?_|((with_reducible refine zL fun R hR=>?_);refine rex [] ?_)|refine cal (JS _ _ _ _ _ _ _ (jq h p) (zcn h p)) ?_|refine cal (zbp n n.ch[k].c.nm p h.nok) ?_|(refine jh ((x.1++[ZB n zbr p true n.ch[k]],74)) ?_ ?_ ?_;(focus((refine zp rfl ?_ ?_ ?_<;>simp<;>simp[noEx, *]);done));(focus(simp only[push_cast,seval, *];done)))|(refine s2 ?_;try with_reducible intro R hR)|fail)
 all_goals(try rw[zb3 (by omega),hfi])
 all_goals(refine gz ?_;grind[maxLen])
theorem zCY (n:zQ) (p:Int) (h:zy n) (hi:I64 p):zu Tryz.prog 33 [jv n,gI p] (.c (.f (.l 19 ((qa n p true).map yS)))):=by
 cases hp:hasP p n.hv
 ·refine enx [.tmp 4] Tryz.func33 fun X w0=>?_
  repeat'(first|(refine spl ?_ ?_<;>(intro hb;refine ne ?_))|(refine zl hR ?_;clear hR)|refine s1 ?_|exact True.intro|refine cal (zDc n p h hp hi) ?_|(refine s2 ?_;try with_reducible intro R hR)|fail)
 ·exact zlZ n p h hp
theorem zDu (n:zQ) (p:Int) (h:zy n):zu Tryz.prog 81 [jv n,gI p,gB true] (.c (.f (.l 19 ((qa n p true).map yS)))):=by
 have hln:=Z6 n p true
 have hch:=h.nok.ch
 have h44:QQ 4=false:=rfl
 refine enx [.tmp 6] Tryz.func81 fun X w0=>?_
 repeat'(first|(refine spl ?_ ?_<;>(intro hb;refine ne ?_))|(refine zl hR ?_;clear hR)|refine s1 ?_|exact True.intro|refine cal (ql n.hv p h.hok) ?_|(((with_reducible refine zO ?_);refine zgC 9 90 136 19 ?_;refine frx (ι:=List It×Nat) (n.ch.length) (fun k x=>St.ofA [(1,gI p),(2,gB true),(3,.loc 3 0),(7,.loc 7 0),(9,.c (.o 90)),(10,gI k)] [(3,27,cNd n),(7,43,cH (findH p n.hv).1)] [(90,x.2,136,19,x.1.map yS)]) (fun k x=>(qa n p true).take k=x.1) ([],90) ?_ (fun k x hJ hk R hR=>?_)))|(with_reducible refine qn ?_;have hkl:k<n.ch.length:=(by omega);have hin:n.ch[k]∈n.ch:=List.getElem_mem hkl;have hxl:x.1.length=k:=(by rw[←hJ,List.length_take];omega);have hwi:=h.inp_wr hin;rcases YG h hin (findH p n.hv).1 p true with⟨c1,c9⟩|⟨c1,c2,c9⟩|⟨c1,c2,c3,c4,⟨c5,c9⟩|⟨c5,c6,c9⟩|⟨c5,c6,c9⟩⟩;rotate_left 2;exact absurd c5 (by decide))|refine rdb [] ?_|refine rex [] ?_|((with_reducible refine zL fun R hR=>?_);refine rex [] ?_)|refine cal (zah _ _ _ _ _ _ _ (jq h p)) ?_|refine cal (JH _) ?_|refine cal (zaG _ n.ch[k].inp n.hv n.ch[k].c.nm p h.hok hwi) ?_|(refine qG ((x.1++[ZB n (findH p n.hv).1 p true n.ch[k]],92)) ?_ ?_ ?_ ?_;(focus((refine zp rfl ?_ ?_ ?_<;>simp<;>simp[noEx, *]);done));(focus(simp only[push_cast,seval, *];done)))|(refine s2 ?_;try with_reducible intro R hR)|fail)
 all_goals(refine gz ?_;grind[zb3,maxLen])
theorem zDi (n:zQ) (p:Int) (h:zy n):zu Tryz.prog 34 [jv n,gI p] (.c (.f (.l 19 ((qa n p true).map yS)))):=by
 refine enx [.tmp 4] Tryz.func34 fun X w0=>?_
 repeat'(first|(refine spl ?_ ?_<;>(intro hb;refine ne ?_))|(refine zl hR ?_;clear hR)|refine s1 ?_|exact True.intro|refine cal (zDu n p h) ?_|(refine s2 ?_;try with_reducible intro R hR)|fail)
theorem law_c (n:zQ) (nm:ByteArray) (p:Int) (hn:NIn n) (hi:I64 p):zu Tryz.prog 6 [jv n,gS nm,gI p] (gB true):=by
 have hok:=hn.ok
 by_cases hf:zaj n=true
 ·have hK:=zbf hf
  have hfit:=zgv n hok
  rw[show zaj n=true from hf]at hfit
  have h1:=ze7 n nm hok
  have h2:=zAj n nm hok (inp_wr hK) (fun x hx=>by have:=hK.rng x hx;omega)
  have h3:=zbp n nm p hok
  have h4:=zDm n nm p hok (inp_wr hK)
  have h5:=zDn n nm hok.ch
  have h6:=zC3 n nm hok.ch (zeQ hK.ch)
  have h7:=zBY n nm hok.ch
  have h8:=zAi n nm hok.ch (zeQ hK.ch)
  have h9:=zCY n p hK hi
  have h10:=zDi n p hK
  have hil:(qa n p true).length≤1048576:=by rw[Z6];exact hok.ch
  generalize estN n nm=e1 at h1 h2
  generalize rstN n nm p=e2 at h3 h4
  generalize zDx n nm=e3 at h5 h6
  generalize zDA n nm=e4 at h7 h8
  generalize qa n p true=its at h9 h10 hil
  have h11:=zmG ⟨0,0,0,0,0,0,0,its⟩ ⟨0,0,0,0,0,0,0,its⟩ hil
  rw[ztJ]at h11
  obtain⟨e1a,e1b⟩:=e1
  obtain⟨e2a,e2b⟩:=e2
  obtain⟨⟨xa,xb,xc,xd⟩,e3b⟩:=e3
  obtain⟨⟨ya,yb,yc,yd⟩,e4b⟩:=e4
  replace hf:=Lib.hid hf
  refine enx [.tmp 6] Tryz.func6 fun X w0=>?_
  repeat'(first|(refine spl ?_ ?_<;>(intro hb;refine ne ?_))|(refine zl hR ?_;clear hR)|refine s1 ?_|exact True.intro|refine cal (hfit) ?_|refine cal (zit) ?_|refine cal (h1) ?_|refine cal (h2) ?_|refine cal (h3) ?_|refine cal (h4) ?_|refine cal (h5) ?_|refine cal (h6) ?_|refine cal (h7) ?_|refine cal (h8) ?_|refine cal (h9) ?_|refine cal (h10) ?_|refine cal (h11) ?_|refine rdb [] ?_|refine cad (h1) ?_|refine cad (h11) ?_|refine cad (zit) ?_|refine lat ?_|(refine s2 ?_;try with_reducible intro R hR)|fail)
  all_goals(first|trivial|(simp at*;done)|grind)
 ·have hfit:=zgv n hok
  rw[show zaj n=false by simpa using hf]at hfit
  refine enx [.tmp 6] Tryz.func6 fun X w0=>?_
  repeat'(first|(refine spl ?_ ?_<;>(intro hb;refine ne ?_))|(refine zl hR ?_;clear hR)|refine s1 ?_|exact True.intro|refine cal (hfit) ?_|refine cal (zit) ?_|(refine s2 ?_;try with_reducible intro R hR)|fail)
set_option maxRecDepth 100000 in
theorem lifted (os:Os) (started:os.Started) (H:Type) (enc:TypeId×Value→H) (F:Stop.Interp):
  ReturnsInHanded {} Tryz.checked os 6 .any ((Rows.OpenSpec.upto Rows.nodeTellsSpec).pre6 enc Tryz.prog Tryz.f6 Rows.nodeTellsUptoRow.domain false) (((Rows.OpenSpec.upto Rows.nodeTellsSpec).at F).post enc Tryz.prog Tryz.f6 false true false false):=by
 refine zqm (C:=Tryz.checked) own started (by kernel_rfl) Tryz.func6
  (OpenSpec.witness (enc:=enc) (C:=Tryz.checked) (s:=Rows.OpenSpec.upto Rows.nodeTellsSpec) (k:=Rows.uptoSmall) rfl false ⟨#[],#[.agg #[.int .i64 0,.int .i64 0,.int .i64 0,.slice none 0 0,.int .i64 0,.slice none 0 0,.slice none 0 0,.slice none 0 0],.string .empty,.int .i64 0],[]⟩ 8 (by kernel_rfl) (by kernel_rfl) (by kernel_rfl)
   (x:=([.agg [.lit (.int .i64 0),.lit (.int .i64 0),.lit (.int .i64 0),.nil,.lit (.int .i64 0),.nil,.nil,.nil],.lit (.string []),.lit (.int .i64 0)],[],[])) (by kernel_rfl) rfl (by kernel_rfl))
  zvj (by kernel_rfl) rfl Tryz.underlying4 rfl (fun ds h=>by match ds,h with|[d0,d1,d2],_=>rfl) ?_
 intro W base args ds p hval0 hA0 hb
 have hval: ∀(j:Nat) t v,Tryz.f6.params[j]? =some t→args[j]? =some v→Value.okWide Tryz.prog W .any base t v:=hval0
 have hA:DataW.TrodAll enc Tryz.prog W 0 (fun _=>true) true Tryz.f6.params.toList args.toList ds p:=hA0
 rw[Tryz.params6]at hA hval
 clear hA0 hval0
 obtain⟨v0,vs0,d0,ds0,p0,q0,hargs,rfl,rfl,h0,r0⟩:=trodAll_cons hA
 obtain⟨v1,vs1,d1,ds1,p1,q1,rfl,rfl,rfl,h1,r1⟩:=trodAll_cons r0
 obtain⟨v2,vs2,d2,ds2,p2,q2,rfl,rfl,rfl,h2,r2⟩:=trodAll_cons r1
 obtain⟨rfl,rfl,rfl⟩:=trodAll_nil r2
 obtain rfl:=zfm hargs
 simp only[Rows.uptoBulkAll]at hb
 obtain⟨x0,g0,k0⟩:=zva (hval 0 27 v0 rfl rfl) h0 (by omega)
 obtain⟨x1,g1,k1⟩:=zCe (hval 1 9 v1 rfl rfl) h1 (by omega)
 obtain⟨x2,g2,k2⟩:=zxj (hval 2 3 v2 rfl rfl) h2
 exact zn3 (law_c x0 x1 x2 g0 g2) W _ rfl (fun j v u hv hu=>by
  match j with
  |0=>cases hv;cases hu;exact k0
  |1=>cases hv;cases hu;exact k1
  |2=>cases hv;cases hu;exact k2
  |j+3=>cases hv)
theorem zzW:Rows.nodeTellsUptoRow.inPlace=Tryz.prog.inPlace 6:=by kernel_rfl
theorem zug:Rows.nodeTellsUptoRow.unfollowed=Tryz.prog.unfollowed 6:=by kernel_rfl
theorem zyJ:Rows.nodeTellsUptoRow.recurses=Tryz.prog.recurses 6:=by rw[Program.recurses,←zug];rfl
theorem zzJ:Rows.nodeTellsUptoRow.named=Tryz.prog.varsNamed 6:=by kernel_rfl
theorem zAT:joinedFacts Tryz.prog 6 Tryz.f6 (Rows.OpenSpec.upto Rows.nodeTellsSpec).bare Rows.nodeTellsUptoRow=true:=zrr zzW zug zyJ zzJ (by kernel_rfl)
theorem proved:Rows.NodeTellsUptoSaid:=
 OpenClaim.holds_of_cond 6 Tryz.f6 rfl rfl rfl rfl rfl rfl rfl ⟨rfl,rfl,rfl,rfl,rfl⟩ rfl rfl rfl rfl rfl (by kernel_rfl) Tryz.func6 zAT
  (of_decide_eq_true (by kernel_rfl)) (by unfold Func.isWrapper;first|(rw[if_pos (by decide+kernel)];kernel_rfl)|(rw[if_neg (by decide+kernel)];exact⟨rfl,rfl⟩))
  (fun os started H enc _ F=>lifted os started H enc F)
end
end Go.Proofs.YtbcbnfiedgnfpaaGreat.nodeTells
