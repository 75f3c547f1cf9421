/- For every input that a machine can hold (the '..UptoSaid' form: all that the arguments reach weighs at most 1048576) the Go function eddylaw20.NodePasses of the given program returns true, never panics, and changes nothing that was there before. No further condition. -/
import Derived.Test.YtbcbnfiedgnfpaaGreatZ52
set_option linter.unusedSimpArgs false
set_option linter.unusedVariables false
set_option maxRecDepth 100000
set_option maxHeartbeats 2000000
namespace Go.Proofs.YtbcbnfiedgnfpaaGreat.nodePasses
open Go.Dl Go.ChangeShapes Go.WideShapes Go.ChangeAt Go.RowKit Go.Joins Go.Deep Go.Ed
attribute [local irreducible] DW yE zY zA zu zky
attribute [local push_cast] zZ qF qC zN zM zD zE qH qE qz Go.Dl.qY yT qy List.mem_cons List.not_mem_nil or_false forall_eq false_implies implies_true
theorem zCW (n m:zQ) (p:qO) (ps:List qO) (es:List ZF) (hok:NOk n) (hm:NOk m) (hfit:zu Tryz.prog 13 [jv n] (gB true)) (hr:zu Tryz.prog 15 [jv n,ZJ p] (rW ⟨m,ps,es⟩))
  (hpass:((∃e,es=[e]∧e.kd=6)∧p.kd≠5)∨(∃q,ps=[q]∧q.kd=2)→m=n∧∀q,ps=[q]→q.kd=2→es=[]∧q.ec=p.bt∧q.el=p.lf∧q.to=p.fr):
  zu Tryz.prog 3 [jv n,ZJ p] (gB true):=by
 have hsm:=zd2 m n hm
 have hself:=zjV n
 obtain⟨kd,fr,to,bt,lf,ec,el,its⟩:=p
 simp only at hpass
 have hpS:(∃e,es=[e]∧e.kd=6)∧kd≠5→m=n:=fun h=>(hpass (.inl h)).1
 have hpW:(∃q,ps=[q]∧q.kd=2)→m=n∧∀q,ps=[q]→q.kd=2→es=[]∧q.ec=bt∧q.el=lf∧q.to=fr:=fun h=>hpass (.inr h)
 clear hpass
 rcases es with _|⟨e,_|⟨e2,es⟩⟩<;>rcases ps with _|⟨q,_|⟨q2,ps⟩⟩
 all_goals(try(have i1:((es.length:Int)+1+1==1)=false:=by simp;omega))
 all_goals(try(have i0:((es.length:Int)+1+1==0)=false:=by simp;omega))
 all_goals(try(have j1:((ps.length:Int)+1+1==1)=false:=by simp;omega))
 all_goals(first|(have g:=e2;clear g)|(cases h6:(e.kd==6)<;>cases h5:(kd !=5))|skip)
 all_goals(first|(have g:=q2;clear g)|(cases h2:(q.kd==2))|skip)
 all_goals(first|(have g2:q.kd=2:=beq_iff_eq.1 h2;obtain⟨hmn,hq⟩:=hpW ⟨q,rfl,g2⟩;obtain⟨f1,f2,f3,f4⟩:=hq q rfl g2;clear g2;subst hmn;rw[zjV]at hsm;replace f2:=beq_iff_eq.2 f2;replace f3:=beq_iff_eq.2 f3;replace f4:=beq_iff_eq.2 f4)|(have g6:e.kd=6:=beq_iff_eq.1 h6;have g5:kd≠5:=bne_iff_ne.1 h5;have hmn:=hpS ⟨⟨e,rfl,g6⟩,g5⟩;clear g6 g5;subst hmn;rw[zjV]at hsm)|skip)
 all_goals(first|(exact absurd f1 (List.cons_ne_nil _ _))|skip)
 all_goals(clear hpS hpW;try clear f1;try clear hq)
 all_goals
  refine enx [.tmp 4] Tryz.func3 fun X w0=>?_
  repeat'(first|(refine spl ?_ ?_<;>(intro hb;refine ne ?_))|(refine zl hR ?_;clear hR)|refine s1 ?_|exact True.intro|refine cal (hfit) ?_|refine cal (hr) ?_|refine cal (zit) ?_|refine rdb [] ?_|((with_reducible refine zL fun R hR=>?_);refine rdb [] ?_)|refine cad (hsm) ?_|refine cad (zit) ?_|refine lat ?_|(refine s2 ?_;try with_reducible intro R hR)|fail)
theorem law_c (n:zQ) (p:qO) (hn:NIn n) (hp:PkOk p):zu Tryz.prog 3 [jv n,ZJ p] (gB true):=by
 have hok:=hn.ok
 by_cases hf:zaj n=true
 ·have hK:=zbf hf
  have hfit:=zgv n hok
  rw[hf]at hfit
  have hr:=zbm n p hK hp
  have hm:=(zk3 p hK).1.nok
  have hps:=zCD (n:=n) (p:=p)
  generalize jp n p=w at hr hm hps
  obtain⟨m,ps,es⟩:=w
  exact zCW n m p ps es hok hm hfit hr hps
 ·have hfit:=zgv n hok
  rw[show zaj n=false by simpa using hf]at hfit
  refine enx [.tmp 4] Tryz.func3 fun X w0=>?_
  repeat'(first|(refine spl ?_ ?_<;>(intro hb;refine ne ?_))|(refine zl hR ?_;clear hR)|refine s1 ?_|exact True.intro|refine cal (hfit) ?_|refine cal (zit) ?_|(refine s2 ?_;try with_reducible intro R hR)|fail)
set_option maxRecDepth 100000 in
theorem lifted (os:Os) (started:os.Started) (H:Type) (enc:TypeId×Value→H) (F:Stop.Interp):
  ReturnsInHanded {} Tryz.checked os 3 .any ((Rows.OpenSpec.upto Rows.nodePassesSpec).pre6 enc Tryz.prog Tryz.f3 Rows.nodePassesUptoRow.domain false) (((Rows.OpenSpec.upto Rows.nodePassesSpec).at F).post enc Tryz.prog Tryz.f3 false true false false):=by
 refine zqm (C:=Tryz.checked) own started (by kernel_rfl) Tryz.func3
  (OpenSpec.witness (enc:=enc) (C:=Tryz.checked) (s:=Rows.OpenSpec.upto Rows.nodePassesSpec) (k:=Rows.uptoSmall) rfl false ⟨#[],#[.agg #[.int .i64 0,.int .i64 0,.int .i64 0,.slice none 0 0,.int .i64 0,.slice none 0 0,.slice none 0 0,.slice none 0 0],.agg #[.int .i64 0,.int .i64 0,.int .i64 0,.int .i64 0,.int .i64 0,.int .i64 0,.int .i64 0,.slice none 0 0]],[]⟩ 8 (by kernel_rfl) (by kernel_rfl) (by kernel_rfl)
   (x:=([.agg [.lit (.int .i64 0),.lit (.int .i64 0),.lit (.int .i64 0),.nil,.lit (.int .i64 0),.nil,.nil,.nil],.agg [.lit (.int .i64 0),.lit (.int .i64 0),.lit (.int .i64 0),.lit (.int .i64 0),.lit (.int .i64 0),.lit (.int .i64 0),.lit (.int .i64 0),.nil]],[],[])) (by kernel_rfl) rfl (by kernel_rfl))
  zvj (by kernel_rfl) rfl Tryz.underlying4 rfl (fun ds h=>by match ds,h with|[d0,d1],_=>rfl) ?_
 intro W base args ds p hval0 hA0 hb
 have hval: ∀(j:Nat) t v,Tryz.f3.params[j]? =some t→args[j]? =some v→Value.okWide Tryz.prog W .any base t v:=hval0
 have hA:DataW.TrodAll enc Tryz.prog W 0 (fun _=>true) true Tryz.f3.params.toList args.toList ds p:=hA0
 rw[Tryz.params3]at hA hval
 clear hA0 hval0
 obtain⟨v0,vs0,d0,ds0,p0,q0,hargs,rfl,rfl,h0,r0⟩:=trodAll_cons hA
 obtain⟨v1,vs1,d1,ds1,p1,q1,rfl,rfl,rfl,h1,r1⟩:=trodAll_cons r0
 obtain⟨rfl,rfl,rfl⟩:=trodAll_nil r1
 obtain rfl:=zfm hargs
 simp only[Rows.uptoBulkAll]at hb
 obtain⟨x0,g0,k0⟩:=zva (hval 0 27 v0 rfl rfl) h0 (by omega)
 obtain⟨x1,g1,k1⟩:=zmA (hval 1 30 v1 rfl rfl) h1 (by omega)
 exact zn3 (law_c x0 x1 g0 g1.ok) W _ rfl (fun j v u hv hu=>by
  match j with
  |0=>cases hv;cases hu;exact k0
  |1=>cases hv;cases hu;exact k1
  |j+2=>cases hv)
theorem zzW:Rows.nodePassesUptoRow.inPlace=Tryz.prog.inPlace 3:=by kernel_rfl
theorem zug:Rows.nodePassesUptoRow.unfollowed=Tryz.prog.unfollowed 3:=by kernel_rfl
theorem zyJ:Rows.nodePassesUptoRow.recurses=Tryz.prog.recurses 3:=by rw[Program.recurses,←zug];rfl
theorem zzJ:Rows.nodePassesUptoRow.named=Tryz.prog.varsNamed 3:=by kernel_rfl
theorem zAT:joinedFacts Tryz.prog 3 Tryz.f3 (Rows.OpenSpec.upto Rows.nodePassesSpec).bare Rows.nodePassesUptoRow=true:=zrr zzW zug zyJ zzJ (by kernel_rfl)
theorem proved:Rows.NodePassesUptoSaid:=
 OpenClaim.holds_of_cond 3 Tryz.f3 rfl rfl rfl rfl rfl rfl rfl ⟨rfl,rfl,rfl,rfl,rfl⟩ rfl rfl rfl rfl rfl (by kernel_rfl) Tryz.func3 zAT
  (of_decide_eq_true (by kernel_rfl)) (by unfold Func.isWrapper;first|(rw[if_pos (by decide+kernel)];kernel_rfl)|(rw[if_neg (by decide+kernel)];exact⟨rfl,rfl⟩))
  (fun os started H enc _ F=>lifted os started H enc F)
end Go.Proofs.YtbcbnfiedgnfpaaGreat.nodePasses
