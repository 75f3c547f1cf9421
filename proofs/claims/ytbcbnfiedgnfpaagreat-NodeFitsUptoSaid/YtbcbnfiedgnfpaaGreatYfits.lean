/- For every input that a machine can hold (the '..UptoSaid' form: all that the arguments reach weighs at most 1048576) the Go function eddylaw20.NodeFits of the given program returns true, never panics, and changes nothing that was there before. No further condition. -/
import Derived.Test.YtbcbnfiedgnfpaaGreatZ52
set_option linter.unusedSimpArgs false
set_option linter.unusedVariables false
set_option maxRecDepth 100000
set_option maxHeartbeats 2000000
namespace Go.Proofs.YtbcbnfiedgnfpaaGreat.nodeFits
open Go.Dl Go.ChangeShapes Go.WideShapes Go.ChangeAt Go.RowKit Go.Joins Go.Deep Go.Ed
attribute [local irreducible] DW yE zY zA zu zky
attribute [local push_cast] zZ qF qC zN zM zD zE qH qE qz Go.Dl.qY yT qy List.mem_cons List.not_mem_nil or_false forall_eq false_implies implies_true
theorem law_c (n m:zQ) (id bt:Int) (hn:NIn n):zu Tryz.prog 7 [jv n,jv m,gI id,gI bt] (gB true):=by
 have hok:=hn.ok
 have hf1:=zqr n hok
 have hf2:=zgv n hok
 have hs1:=zbU n m hok
 have hs2:=zd2 n m hok
 have hs3:=zbU n n hok
 rw[zjV]at hs3
 have hw:NOk (zsa id bt):=by unfold zsa;split<;>exact⟨by simp,by simp,by simp,by simp,by simp,by simp⟩
 have hn1:=zq8 id bt
 have hn2:=zrS id bt
 have hs4:=zwb (zsa id bt) hw
 generalize zsa id bt=q at hn1 hn2 hs4
 cases zaj n<;>cases eqN n m
 all_goals
  refine enx [.tmp 8] Tryz.func7 fun X w0=>?_
  repeat'(first|(refine spl ?_ ?_<;>(intro hb;refine ne ?_))|(refine zl hR ?_;clear hR)|refine s1 ?_|exact True.intro|refine rdb [] ?_|((with_reducible refine zL fun R hR=>?_);refine rdb [] ?_)|refine cad (hf1) ?_|refine cad (hf2) ?_|refine cad (hs1) ?_|refine cad (hs2) ?_|refine cad (qw n hok) ?_|refine cad (hs3) ?_|refine cad (hn1) ?_|refine cad (hn2) ?_|refine cad (hs4) ?_|refine cad (zit) ?_|refine lat ?_|(refine s2 ?_;try with_reducible intro R hR)|fail)
 all_goals(simp at*)
set_option maxRecDepth 100000 in
theorem lifted (os:Os) (started:os.Started) (H:Type) (enc:TypeId×Value→H) (F:Stop.Interp):
  ReturnsInHanded {} Tryz.checked os 7 .any ((Rows.OpenSpec.upto Rows.nodeFitsSpec).pre6 enc Tryz.prog Tryz.f7 Rows.nodeFitsUptoRow.domain false) (((Rows.OpenSpec.upto Rows.nodeFitsSpec).at F).post enc Tryz.prog Tryz.f7 false true false false):=by
 refine zqm (C:=Tryz.checked) own started (by kernel_rfl) Tryz.func7
  (OpenSpec.witness (enc:=enc) (C:=Tryz.checked) (s:=Rows.OpenSpec.upto Rows.nodeFitsSpec) (k:=Rows.uptoSmall) rfl false ⟨#[],#[.agg #[.int .i64 0,.int .i64 0,.int .i64 0,.slice none 0 0,.int .i64 0,.slice none 0 0,.slice none 0 0,.slice none 0 0],.agg #[.int .i64 0,.int .i64 0,.int .i64 0,.slice none 0 0,.int .i64 0,.slice none 0 0,.slice none 0 0,.slice none 0 0],.int .i64 0,.int .i64 0],[]⟩ 8 (by kernel_rfl) (by kernel_rfl) (by kernel_rfl)
   (x:=([.agg [.lit (.int .i64 0),.lit (.int .i64 0),.lit (.int .i64 0),.nil,.lit (.int .i64 0),.nil,.nil,.nil],.agg [.lit (.int .i64 0),.lit (.int .i64 0),.lit (.int .i64 0),.nil,.lit (.int .i64 0),.nil,.nil,.nil],.lit (.int .i64 0),.lit (.int .i64 0)],[],[])) (by kernel_rfl) rfl (by kernel_rfl))
  zvj (by kernel_rfl) rfl Tryz.underlying4 rfl (fun ds h=>by match ds,h with|[d0,d1,d2,d3],_=>rfl) ?_
 intro W base args ds p hval0 hA0 hb
 have hval: ∀(j:Nat) t v,Tryz.f7.params[j]? =some t→args[j]? =some v→Value.okWide Tryz.prog W .any base t v:=hval0
 have hA:DataW.TrodAll enc Tryz.prog W 0 (fun _=>true) true Tryz.f7.params.toList args.toList ds p:=hA0
 rw[Tryz.params7]at hA hval
 clear hA0 hval0
 obtain⟨v0,vs0,d0,ds0,p0,q0,hargs,rfl,rfl,h0,r0⟩:=trodAll_cons hA
 obtain⟨v1,vs1,d1,ds1,p1,q1,rfl,rfl,rfl,h1,r1⟩:=trodAll_cons r0
 obtain⟨v2,vs2,d2,ds2,p2,q2,rfl,rfl,rfl,h2,r2⟩:=trodAll_cons r1
 obtain⟨v3,vs3,d3,ds3,p3,q3,rfl,rfl,rfl,h3,r3⟩:=trodAll_cons r2
 obtain⟨rfl,rfl,rfl⟩:=trodAll_nil r3
 obtain rfl:=zfm hargs
 simp only[Rows.uptoBulkAll]at hb
 obtain⟨x0,g0,k0⟩:=zva (hval 0 27 v0 rfl rfl) h0 (by omega)
 obtain⟨x1,g1,k1⟩:=zva (hval 1 27 v1 rfl rfl) h1 (by omega)
 obtain⟨x2,g2,k2⟩:=zxj (hval 2 3 v2 rfl rfl) h2
 obtain⟨x3,g3,k3⟩:=zmD (hval 3 2 v3 rfl rfl) h3
 exact zn3 (law_c x0 x1 x2 x3 g0) W _ rfl (fun j v u hv hu=>by
  match j with
  |0=>cases hv;cases hu;exact k0
  |1=>cases hv;cases hu;exact k1
  |2=>cases hv;cases hu;exact k2
  |3=>cases hv;cases hu;exact k3
  |j+4=>cases hv)
theorem zzW:Rows.nodeFitsUptoRow.inPlace=Tryz.prog.inPlace 7:=by kernel_rfl
theorem zug:Rows.nodeFitsUptoRow.unfollowed=Tryz.prog.unfollowed 7:=by kernel_rfl
theorem zyJ:Rows.nodeFitsUptoRow.recurses=Tryz.prog.recurses 7:=by rw[Program.recurses,←zug];rfl
theorem zzJ:Rows.nodeFitsUptoRow.named=Tryz.prog.varsNamed 7:=by kernel_rfl
theorem zAT:joinedFacts Tryz.prog 7 Tryz.f7 (Rows.OpenSpec.upto Rows.nodeFitsSpec).bare Rows.nodeFitsUptoRow=true:=zrr zzW zug zyJ zzJ (by kernel_rfl)
theorem proved:Rows.NodeFitsUptoSaid:=
 OpenClaim.holds_of_cond 7 Tryz.f7 rfl rfl rfl rfl rfl rfl rfl ⟨rfl,rfl,rfl,rfl,rfl⟩ rfl rfl rfl rfl rfl (by kernel_rfl) Tryz.func7 zAT
  (of_decide_eq_true (by kernel_rfl)) (by unfold Func.isWrapper;first|(rw[if_pos (by decide+kernel)];kernel_rfl)|(rw[if_neg (by decide+kernel)];exact⟨rfl,rfl⟩))
  (fun os started H enc _ F=>lifted os started H enc F)
end Go.Proofs.YtbcbnfiedgnfpaaGreat.nodeFits
