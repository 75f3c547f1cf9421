/- For every input that a machine can hold (the '..UptoSaid' form: all that the arguments reach weighs at most 1048576) the Go function eddylaw20.NodeTicks of the given program returns true, never panics, and changes nothing that was there before. No further condition. -/
import Derived.Test.YtbcbnfiedgnfpaaGreatZ52
set_option linter.unusedSimpArgs false
set_option linter.unusedVariables false
set_option maxRecDepth 100000
set_option maxHeartbeats 2000000
namespace Go.Proofs.YtbcbnfiedgnfpaaGreat.nodeTicks
open Go.Dl Go.ChangeShapes Go.WideShapes Go.ChangeAt Go.RowKit Go.Joins Go.Deep Go.Ed
attribute [local irreducible] DW yE zY zA zu zky
attribute [local push_cast] zZ qF qC zN zM zD zE qH qE qz Go.Dl.qY yT qy List.mem_cons List.not_mem_nil or_false forall_eq false_implies implies_true
theorem law_c (n:zQ) (hn:NIn n):zu Tryz.prog 8 [jv n] (gB true):=by
 have hok:=hn.ok
 by_cases hf:zaj n=true
 ·have hK:=zbf hf
  have hc:zuX (⟨6,0,⟨#[]⟩,0,0,⟨0,0,0,0,0,0,0,[]⟩⟩:Cal):=⟨show -9223372036854775808≤(0:Int)∧(0:Int)≤9223372036854775807 by omega,by decide,by simp,by simp⟩
  have hd:=zsL n (⟨6,0,⟨#[]⟩,0,0,⟨0,0,0,0,0,0,0,[]⟩⟩:Cal) hK hc
  have hs:=zr5 n (⟨6,0,⟨#[]⟩,0,0,⟨0,0,0,0,0,0,0,[]⟩⟩:Cal) hK hc
  have hcm:=zqj (⟨6,0,⟨#[]⟩,0,0,⟨0,0,0,0,0,0,0,[]⟩⟩:Cal) hf
  replace hf:=Lib.hid hf
  generalize Ye n (⟨6,0,⟨#[]⟩,0,0,⟨0,0,0,0,0,0,0,[]⟩⟩:Cal)=x at hd hs hcm
  have hfit:=zgv n hok
  rw[show zaj n=true from hf]at hfit
  refine enx [.tmp 2] Tryz.func8 fun X w0=>?_
  repeat'(first|(refine spl ?_ ?_<;>(intro hb;refine ne ?_))|(refine zl hR ?_;clear hR)|refine s1 ?_|exact True.intro|refine cal (hfit) ?_|refine cal (qw n hok) ?_|refine cal (zit) ?_|refine rdb [] ?_|(refine⟨_,_,hd,(by simp[zc9,vle,cle,yT];done),?_⟩;rw[zo];simp only[push_cast,seval, *])|(refine⟨_,_,hs,(by simp[zc9,vle,cle,yT];done),?_⟩;rw[zo];simp only[push_cast,seval, *])|refine cad (hcm) ?_|refine cad (zwb n hok) ?_|refine cad (zit) ?_|refine lat ?_|(refine s2 ?_;try with_reducible intro R hR)|fail)
 ·have hfit:=zgv n hok
  rw[show zaj n=false by simpa using hf]at hfit
  refine enx [.tmp 2] Tryz.func8 fun X w0=>?_
  repeat'(first|(refine spl ?_ ?_<;>(intro hb;refine ne ?_))|(refine zl hR ?_;clear hR)|refine s1 ?_|exact True.intro|refine cal (hfit) ?_|refine cal (zit) ?_|(refine s2 ?_;try with_reducible intro R hR)|fail)
set_option maxRecDepth 100000 in
theorem lifted (os:Os) (started:os.Started) (H:Type) (enc:TypeId×Value→H) (F:Stop.Interp):
  ReturnsInHanded {} Tryz.checked os 8 .any ((Rows.OpenSpec.upto Rows.nodeTicksSpec).pre6 enc Tryz.prog Tryz.f8 Rows.nodeTicksUptoRow.domain false) (((Rows.OpenSpec.upto Rows.nodeTicksSpec).at F).post enc Tryz.prog Tryz.f8 false true false false):=by
 refine zqm (C:=Tryz.checked) own started (by kernel_rfl) Tryz.func8
  (OpenSpec.witness (enc:=enc) (C:=Tryz.checked) (s:=Rows.OpenSpec.upto Rows.nodeTicksSpec) (k:=Rows.uptoSmall) rfl false ⟨#[],#[.agg #[.int .i64 0,.int .i64 0,.int .i64 0,.slice none 0 0,.int .i64 0,.slice none 0 0,.slice none 0 0,.slice none 0 0]],[]⟩ 8 (by kernel_rfl) (by kernel_rfl) (by kernel_rfl)
   (x:=([.agg [.lit (.int .i64 0),.lit (.int .i64 0),.lit (.int .i64 0),.nil,.lit (.int .i64 0),.nil,.nil,.nil]],[],[])) (by kernel_rfl) rfl (by kernel_rfl))
  zvj (by kernel_rfl) rfl Tryz.underlying4 rfl (fun ds h=>by match ds,h with|[d0],_=>rfl) ?_
 intro W base args ds p hval0 hA0 hb
 have hval: ∀(j:Nat) t v,Tryz.f8.params[j]? =some t→args[j]? =some v→Value.okWide Tryz.prog W .any base t v:=hval0
 have hA:DataW.TrodAll enc Tryz.prog W 0 (fun _=>true) true Tryz.f8.params.toList args.toList ds p:=hA0
 rw[Tryz.params8]at hA hval
 clear hA0 hval0
 obtain⟨v0,vs0,d0,ds0,p0,q0,hargs,rfl,rfl,h0,r0⟩:=trodAll_cons hA
 obtain⟨rfl,rfl,rfl⟩:=trodAll_nil r0
 obtain rfl:=zfm hargs
 simp only[Rows.uptoBulkAll]at hb
 obtain⟨x0,g0,k0⟩:=zva (hval 0 27 v0 rfl rfl) h0 (by omega)
 exact zn3 (law_c x0 g0) W _ rfl (fun j v u hv hu=>by
  match j with
  |0=>cases hv;cases hu;exact k0
  |j+1=>cases hv)
theorem zzW:Rows.nodeTicksUptoRow.inPlace=Tryz.prog.inPlace 8:=by kernel_rfl
theorem zug:Rows.nodeTicksUptoRow.unfollowed=Tryz.prog.unfollowed 8:=by kernel_rfl
theorem zyJ:Rows.nodeTicksUptoRow.recurses=Tryz.prog.recurses 8:=by rw[Program.recurses,←zug];rfl
theorem zzJ:Rows.nodeTicksUptoRow.named=Tryz.prog.varsNamed 8:=by kernel_rfl
theorem zAT:joinedFacts Tryz.prog 8 Tryz.f8 (Rows.OpenSpec.upto Rows.nodeTicksSpec).bare Rows.nodeTicksUptoRow=true:=zrr zzW zug zyJ zzJ (by kernel_rfl)
theorem proved:Rows.NodeTicksUptoSaid:=
 OpenClaim.holds_of_cond 8 Tryz.f8 rfl rfl rfl rfl rfl rfl rfl ⟨rfl,rfl,rfl,rfl,rfl⟩ rfl rfl rfl rfl rfl (by kernel_rfl) Tryz.func8 zAT
  (of_decide_eq_true (by kernel_rfl)) (by unfold Func.isWrapper;first|(rw[if_pos (by decide+kernel)];kernel_rfl)|(rw[if_neg (by decide+kernel)];exact⟨rfl,rfl⟩))
  (fun os started H enc _ F=>lifted os started H enc F)
end Go.Proofs.YtbcbnfiedgnfpaaGreat.nodeTicks
