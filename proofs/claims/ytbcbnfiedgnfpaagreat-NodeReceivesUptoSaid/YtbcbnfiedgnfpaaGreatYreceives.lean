/- For every input that a machine can hold (the '..UptoSaid' form: all that the arguments reach weighs at most 1048576) the Go function eddylaw20.NodeReceives of the given program returns true, never panics, and changes nothing that was there before. No further condition. -/
import Derived.Test.YtbcbnfiedgnfpaaGreatZ52
set_option linter.unusedSimpArgs false
set_option linter.unusedVariables false
set_option maxRecDepth 100000
set_option maxHeartbeats 2000000
namespace Go.Proofs.YtbcbnfiedgnfpaaGreat.nodeReceives
open Go.Dl Go.ChangeShapes Go.WideShapes Go.ChangeAt Go.RowKit Go.Joins Go.Deep Go.Ed
attribute [local irreducible] DW yE zY zA zu zky
attribute [local push_cast] zZ qF qC zN zM zD zE qH qE qz Go.Dl.qY yT qy List.mem_cons List.not_mem_nil or_false forall_eq false_implies implies_true
theorem law_c (n:zQ) (p:qO) (hn:NIn n) (hp:PkOk p):zu Tryz.prog 9 [jv n,ZJ p] (gB true):=by
 have hok:=hn.ok
 by_cases hf:zaj n=true
 ·have hK:=zbf hf
  have hc:zuX (⟨7,0,⟨#[]⟩,0,0,p⟩:Cal):=⟨show -9223372036854775808≤(0:Int)∧(0:Int)≤9223372036854775807 by omega,show(0:Nat)≤1048576 by decide,hp⟩
  have hd:=zsL n (⟨7,0,⟨#[]⟩,0,0,p⟩:Cal) hK hc
  have hs:=zr5 n (⟨7,0,⟨#[]⟩,0,0,p⟩:Cal) hK hc
  have hcm:=zqj (⟨7,0,⟨#[]⟩,0,0,p⟩:Cal) hf
  replace hf:=Lib.hid hf
  generalize Ye n (⟨7,0,⟨#[]⟩,0,0,p⟩:Cal)=x at hd hs hcm
  have hfit:=zgv n hok
  rw[show zaj n=true from hf]at hfit
  refine enx [.tmp 4] Tryz.func9 fun X w0=>?_
  repeat'(first|(refine spl ?_ ?_<;>(intro hb;refine ne ?_))|(refine zl hR ?_;clear hR)|refine s1 ?_|exact True.intro|refine cal (hfit) ?_|refine cal (qw n hok) ?_|refine cal (zit) ?_|refine rdb [] ?_|refine cad (hd) ?_|refine cad (hs) ?_|refine cad (hcm) ?_|refine cad (zwb n hok) ?_|refine cad (zit) ?_|refine lat ?_|(refine s2 ?_;try with_reducible intro R hR)|fail)
 ·have hfit:=zgv n hok
  rw[show zaj n=false by simpa using hf]at hfit
  refine enx [.tmp 4] Tryz.func9 fun X w0=>?_
  repeat'(first|(refine spl ?_ ?_<;>(intro hb;refine ne ?_))|(refine zl hR ?_;clear hR)|refine s1 ?_|exact True.intro|refine cal (hfit) ?_|refine cal (zit) ?_|(refine s2 ?_;try with_reducible intro R hR)|fail)
set_option maxRecDepth 100000 in
theorem lifted (os:Os) (started:os.Started) (H:Type) (enc:TypeId×Value→H) (F:Stop.Interp):
  ReturnsInHanded {} Tryz.checked os 9 .any ((Rows.OpenSpec.upto Rows.nodeReceivesSpec).pre6 enc Tryz.prog Tryz.f9 Rows.nodeReceivesUptoRow.domain false) (((Rows.OpenSpec.upto Rows.nodeReceivesSpec).at F).post enc Tryz.prog Tryz.f9 false true false false):=by
 refine zqm (C:=Tryz.checked) own started (by kernel_rfl) Tryz.func9
  (OpenSpec.witness (enc:=enc) (C:=Tryz.checked) (s:=Rows.OpenSpec.upto Rows.nodeReceivesSpec) (k:=Rows.uptoSmall) rfl false ⟨#[],#[.agg #[.int .i64 0,.int .i64 0,.int .i64 0,.slice none 0 0,.int .i64 0,.slice none 0 0,.slice none 0 0,.slice none 0 0],.agg #[.int .i64 0,.int .i64 0,.int .i64 0,.int .i64 0,.int .i64 0,.int .i64 0,.int .i64 0,.slice none 0 0]],[]⟩ 8 (by kernel_rfl) (by kernel_rfl) (by kernel_rfl)
   (x:=([.agg [.lit (.int .i64 0),.lit (.int .i64 0),.lit (.int .i64 0),.nil,.lit (.int .i64 0),.nil,.nil,.nil],.agg [.lit (.int .i64 0),.lit (.int .i64 0),.lit (.int .i64 0),.lit (.int .i64 0),.lit (.int .i64 0),.lit (.int .i64 0),.lit (.int .i64 0),.nil]],[],[])) (by kernel_rfl) rfl (by kernel_rfl))
  zvj (by kernel_rfl) rfl Tryz.underlying4 rfl (fun ds h=>by match ds,h with|[d0,d1],_=>rfl) ?_
 intro W base args ds p hval0 hA0 hb
 have hval: ∀(j:Nat) t v,Tryz.f9.params[j]? =some t→args[j]? =some v→Value.okWide Tryz.prog W .any base t v:=hval0
 have hA:DataW.TrodAll enc Tryz.prog W 0 (fun _=>true) true Tryz.f9.params.toList args.toList ds p:=hA0
 rw[Tryz.params9]at hA hval
 clear hA0 hval0
 obtain⟨v0,vs0,d0,ds0,p0,q0,hargs,rfl,rfl,h0,r0⟩:=trodAll_cons hA
 obtain⟨v1,vs1,d1,ds1,p1,q1,rfl,rfl,rfl,h1,r1⟩:=trodAll_cons r0
 obtain⟨rfl,rfl,rfl⟩:=trodAll_nil r1
 obtain rfl:=zfm hargs
 simp only[Rows.uptoBulkAll]at hb
 obtain⟨x0,g0,k0⟩:=zva (hval 0 27 v0 rfl rfl) h0 (by omega)
 obtain⟨x1,g1,k1⟩:=zmA (hval 1 30 v1 rfl rfl) h1 (by omega)
 exact zn3 (law_c x0 x1 g0 g1.ok) W _ rfl (fun j v u hv hu=>by
  match j with
  |0=>cases hv;cases hu;exact k0
  |1=>cases hv;cases hu;exact k1
  |j+2=>cases hv)
theorem zzW:Rows.nodeReceivesUptoRow.inPlace=Tryz.prog.inPlace 9:=by kernel_rfl
theorem zug:Rows.nodeReceivesUptoRow.unfollowed=Tryz.prog.unfollowed 9:=by kernel_rfl
theorem zyJ:Rows.nodeReceivesUptoRow.recurses=Tryz.prog.recurses 9:=by rw[Program.recurses,←zug];rfl
theorem zzJ:Rows.nodeReceivesUptoRow.named=Tryz.prog.varsNamed 9:=by kernel_rfl
theorem zAT:joinedFacts Tryz.prog 9 Tryz.f9 (Rows.OpenSpec.upto Rows.nodeReceivesSpec).bare Rows.nodeReceivesUptoRow=true:=zrr zzW zug zyJ zzJ (by kernel_rfl)
theorem proved:Rows.NodeReceivesUptoSaid:=
 OpenClaim.holds_of_cond 9 Tryz.f9 rfl rfl rfl rfl rfl rfl rfl ⟨rfl,rfl,rfl,rfl,rfl⟩ rfl rfl rfl rfl rfl (by kernel_rfl) Tryz.func9 zAT
  (of_decide_eq_true (by kernel_rfl)) (by unfold Func.isWrapper;first|(rw[if_pos (by decide+kernel)];kernel_rfl)|(rw[if_neg (by decide+kernel)];exact⟨rfl,rfl⟩))
  (fun os started H enc _ F=>lifted os started H enc F)
end Go.Proofs.YtbcbnfiedgnfpaaGreat.nodeReceives
