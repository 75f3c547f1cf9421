/- For every input that a machine can hold (the '..UptoSaid' form: all that the arguments reach weighs at most 1048576) the Go function eddylaw20.NodePlays of the given program returns true, never panics, and changes nothing that was there before. No further condition. -/
import Derived.Test.YtbcbnfiedgnfpaaGreatZ52
set_option linter.unusedSimpArgs false
set_option linter.unusedVariables false
set_option maxRecDepth 100000
set_option maxHeartbeats 2000000
namespace Go.Proofs.YtbcbnfiedgnfpaaGreat.nodePlays
open Go.Dl Go.ChangeShapes Go.WideShapes Go.ChangeAt Go.RowKit Go.Joins Go.Deep Go.Ed
attribute [local irreducible] DW yE zY zA zu zky
attribute [local push_cast] zZ qF qC zN zM zD zE qH qE qz Go.Dl.qY yT qy List.mem_cons List.not_mem_nil or_false forall_eq false_implies implies_true
theorem zFx {p:qO} (h:jb p=true):PkOk p:=by
 have h1:=zfw h
 refine⟨by omega,fun x hx=>?_⟩
 obtain⟨_,_,_,_,_,_,_,_,h9⟩:=zl5.1 h
 by_cases hk:p.kd=3∨p.kd=4
 ·rw[if_pos hk]at h9
  have:=(zib (zeG (y8 ((zik.1 h9.2).2.1 x hx)))).2;omega
 ·rw[if_neg hk]at h9;rw[h9]at hx;cases hx
theorem law_c (n:zQ) (l:List Cal) (hn:NIn n) (hl:l.length≤1048576) (hc: ∀c∈l,zuX c):zu Tryz.prog 11 [jv n,zD5 l] (gB true):=by
 have hok:=hn.ok
 by_cases hf:zaj n=true
 ·have hfit:=zgv n hok
  rw[show zaj n=true from hf]at hfit
  replace hc:=Lib.hid hc
  replace hf:=Lib.hid hf
  refine enx [.tmp 4] Tryz.func11 fun X w0=>?_
  repeat'(first|(refine spl ?_ ?_<;>(intro hb;refine ne ?_))|(refine zl hR ?_;clear hR)|refine s1 ?_|exact True.intro|refine cal (hfit) ?_|refine cal (qw n hok) ?_|refine cal (zit) ?_|((with_reducible refine zO ?_);refine frx (ι:=zQ) (l.length) (fun k x=>St.ofA [(1,zD5 l),(2,.loc 2 0),(5,.loc 5 0),(6,.loc 6 0),(7,gI k)] [(2,27,cNd n),(5,27,cNd x),(6,27,cNd x)] []) (fun k x=>zaj x=true∧x.id=n.id) n ?_ (fun k x hJk hkk R hR=>?_))|((with_reducible refine zO ?_);refine frx (ι:=Unit) (ps.length) (fun j _=>St.ofA [(1,zD5 l),(2,.loc 2 0),(5,.loc 5 0),(6,.loc 6 0),(7,gI k),(8,.loc 8 0),(9,.loc 9 0),(10,gI j)] [(2,27,cNd n),(5,27,cNd x),(6,27,cNd x),(8,80,cCm (⟨m,ps,es⟩,r)),(9,80,cCm (⟨m,ps,es⟩,r))] []) (fun j _=>True) () ?_ (fun j y hJj hkj R hR=>?_))|((with_reducible refine qn ?_);have hkl:k<l.length:=(by omega);obtain⟨j1,j2⟩:=hJk;have hck:=(show∀c∈l,zuX c from hc) l[k] (List.getElem_mem hkl);have hd:=zsL x l[k] (zbf j1) hck;have hs:=zr5 x l[k] (zbf j1) hck;have hcm:=zqj l[k] j1;obtain⟨f1,f2,f3⟩:=zsm l[k] j1;have hfw:=(zuy l[k] (zbf j1)).1;generalize Ye x l[k]=w at hd hs hcm f1 f2 f3 hfw;obtain⟨⟨m,ps,es⟩,r⟩:=w;simp only at hfw f1 f3;have hnf:=zqr m (zbf f1).nok;rw[f1]at hnf;replace f1:=Lib.hid f1;replace f2:=Lib.hid f2;replace f3:=Lib.hid (f3.trans j2);replace j2:=Lib.hid j2)|((with_reducible refine qn ?_);have hjl:j<ps.length:=(by omega);obtain⟨p1,p2⟩:=(show zaK ⟨m,ps,es⟩from f2) ps[j] (List.getElem_mem hjl);have hf5:=Zz ps[j] (zFx p1);rw[p1]at hf5;have hfr:=Lib.hid (p2.trans (show m.id=n.id from f3));clear p2)|refine rdb [] ?_|refine rdb [8] ?_|refine rdb [9] ?_|refine cad (hd) ?_|refine cad (hs) ?_|refine cad (hf5) ?_|refine lat ?_|refine cal (hcm) ?_|refine cal (hnf) ?_|refine fnx (()) ?_ ?_|refine fnx (m) ?_ ?_|(refine s2 ?_;try with_reducible intro R hR)|fail)
  all_goals(first|exact⟨hf,rfl⟩|exact⟨f1,f3⟩|trivial|(exfalso;have hq:ps[j].fr=n.id:=hfr;rw[hq]at hb;simp at hb))
 ·have hfit:=zgv n hok
  rw[show zaj n=false by simpa using hf]at hfit
  refine enx [.tmp 4] Tryz.func11 fun X w0=>?_
  repeat'(first|(refine spl ?_ ?_<;>(intro hb;refine ne ?_))|(refine zl hR ?_;clear hR)|refine s1 ?_|exact True.intro|refine cal (hfit) ?_|refine cal (zit) ?_|(refine s2 ?_;try with_reducible intro R hR)|fail)
set_option maxRecDepth 100000 in
theorem lifted (os:Os) (started:os.Started) (H:Type) (enc:TypeId×Value→H) (F:Stop.Interp):
  ReturnsInHanded {} Tryz.checked os 11 .any ((Rows.OpenSpec.upto Rows.nodePlaysSpec).pre6 enc Tryz.prog Tryz.f11 Rows.nodePlaysUptoRow.domain false) (((Rows.OpenSpec.upto Rows.nodePlaysSpec).at F).post enc Tryz.prog Tryz.f11 false true false false):=by
 refine zqm (C:=Tryz.checked) own started (by kernel_rfl) Tryz.func11
  (OpenSpec.witness (enc:=enc) (C:=Tryz.checked) (s:=Rows.OpenSpec.upto Rows.nodePlaysSpec) (k:=Rows.uptoSmall) rfl false ⟨#[],#[.agg #[.int .i64 0,.int .i64 0,.int .i64 0,.slice none 0 0,.int .i64 0,.slice none 0 0,.slice none 0 0,.slice none 0 0],.slice none 0 0],[]⟩ 8 (by kernel_rfl) (by kernel_rfl) (by kernel_rfl)
   (x:=([.agg [.lit (.int .i64 0),.lit (.int .i64 0),.lit (.int .i64 0),.nil,.lit (.int .i64 0),.nil,.nil,.nil],.nil],[],[])) (by kernel_rfl) rfl (by kernel_rfl))
  zvj (by kernel_rfl) rfl Tryz.underlying4 rfl (fun ds h=>by match ds,h with|[d0,d1],_=>rfl) ?_
 intro W base args ds p hval0 hA0 hb
 have hval: ∀(j:Nat) t v,Tryz.f11.params[j]? =some t→args[j]? =some v→Value.okWide Tryz.prog W .any base t v:=hval0
 have hA:DataW.TrodAll enc Tryz.prog W 0 (fun _=>true) true Tryz.f11.params.toList args.toList ds p:=hA0
 rw[Tryz.params11]at hA hval
 clear hA0 hval0
 obtain⟨v0,vs0,d0,ds0,p0,q0,hargs,rfl,rfl,h0,r0⟩:=trodAll_cons hA
 obtain⟨v1,vs1,d1,ds1,p1,q1,rfl,rfl,rfl,h1,r1⟩:=trodAll_cons r0
 obtain⟨rfl,rfl,rfl⟩:=trodAll_nil r1
 obtain rfl:=zfm hargs
 simp only[Rows.uptoBulkAll]at hb
 obtain⟨x0,g0,k0⟩:=zva (hval 0 27 v0 rfl rfl) h0 (by omega)
 obtain⟨x1,g1,k1⟩:=zCy (hval 1 85 v1 rfl rfl) h1 (by omega)
 exact zn3 (law_c x0 x1 g0 g1.1 g1.2) W _ rfl (fun j v u hv hu=>by
  match j with
  |0=>cases hv;cases hu;exact k0
  |1=>cases hv;cases hu;exact k1
  |j+2=>cases hv)
theorem zzW:Rows.nodePlaysUptoRow.inPlace=Tryz.prog.inPlace 11:=by kernel_rfl
theorem zug:Rows.nodePlaysUptoRow.unfollowed=Tryz.prog.unfollowed 11:=by kernel_rfl
theorem zyJ:Rows.nodePlaysUptoRow.recurses=Tryz.prog.recurses 11:=by rw[Program.recurses,←zug];rfl
theorem zzJ:Rows.nodePlaysUptoRow.named=Tryz.prog.varsNamed 11:=by kernel_rfl
theorem zAT:joinedFacts Tryz.prog 11 Tryz.f11 (Rows.OpenSpec.upto Rows.nodePlaysSpec).bare Rows.nodePlaysUptoRow=true:=zrr zzW zug zyJ zzJ (by kernel_rfl)
theorem proved:Rows.NodePlaysUptoSaid:=
 OpenClaim.holds_of_cond 11 Tryz.f11 rfl rfl rfl rfl rfl rfl rfl ⟨rfl,rfl,rfl,rfl,rfl⟩ rfl rfl rfl rfl rfl (by kernel_rfl) Tryz.func11 zAT
  (of_decide_eq_true (by kernel_rfl)) (by unfold Func.isWrapper;first|(rw[if_pos (by decide+kernel)];kernel_rfl)|(rw[if_neg (by decide+kernel)];exact⟨rfl,rfl⟩))
  (fun os started H enc _ F=>lifted os started H enc F)
end Go.Proofs.YtbcbnfiedgnfpaaGreat.nodePlays
