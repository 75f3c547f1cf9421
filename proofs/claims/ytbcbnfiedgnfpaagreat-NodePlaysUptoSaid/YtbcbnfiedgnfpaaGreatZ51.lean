import Derived.Test.YtbcbnfiedgnfpaaGreatZ49
import Derived.Test.YtbcbnfiedgnfpaaGreatZ50
set_option linter.unusedSimpArgs false
set_option linter.unusedVariables false
set_option maxRecDepth 100000
set_option maxHeartbeats 2000000
namespace Go.Proofs.YtbcbnfiedgnfpaaGreat
open Go.Dl
attribute [local irreducible] DW yE zY zA zu zky
attribute [local push_cast] zZ qF qC zN zM zD zE qH qE qz Go.Dl.qY yT qy List.mem_cons List.not_mem_nil or_false forall_eq false_implies implies_true
theorem zzI:zu Tryz.prog 22 [gI 2,gI 7] (jv (⟨2,7,0,[],0,[],[],[]⟩:zQ)):=zq8 2 7
theorem zbf {n:zQ} (h:zaj n=true):zy n:=(jV.1 h).1
theorem zwQ:zu Tryz.prog 23 [jv (⟨2,7,0,[],0,[],[],[]⟩:zQ),gI 5] (rWE (⟨(⟨2,7,0,[5],0,[],[],[]⟩:zQ),[],[]⟩,0)):=by
 have h:=zfa (⟨2,7,0,[],0,[],[],[]⟩:zQ) 5 (zbf (by kernel_rfl))
 rwa[show zd0 (⟨2,7,0,[],0,[],[],[]⟩:zQ) 5=(⟨(⟨2,7,0,[5],0,[],[],[]⟩:zQ),[],[]⟩,0)by kernel_rfl]at h
theorem zvI:zu Tryz.prog 55 [jv (⟨2,7,0,[5],0,[],[],[]⟩:zQ)] (rW ⟨(⟨2,7,1,[5],0,[],[],[]⟩:zQ),[⟨1,2,5,7,0,0,0,[]⟩],[]⟩):=by
 have h:=zfz (⟨2,7,0,[5],0,[],[],[]⟩:zQ) (zbf (by kernel_rfl))
 rwa[show tickW (⟨2,7,0,[5],0,[],[],[]⟩:zQ)=⟨(⟨2,7,1,[5],0,[],[],[]⟩:zQ),[⟨1,2,5,7,0,0,0,[]⟩],[]⟩by kernel_rfl]at h
theorem zv6:zu Tryz.prog 15 [jv (⟨2,7,1,[5],0,[],[],[]⟩:zQ),ZJ (⟨2,5,2,3,0,7,0,[]⟩:qO)] (rW ⟨(⟨2,7,1,[5],0,[⟨5,3,0,0⟩],[⟨5,3,0,[],true,0⟩],[]⟩:zQ),[⟨3,2,5,7,0,3,0,[]⟩],[⟨1,5,yI,3⟩]⟩):=by
 have h:=zbm (⟨2,7,1,[5],0,[],[],[]⟩:zQ) (⟨2,5,2,3,0,7,0,[]⟩:qO) (zbf (by kernel_rfl)) ⟨by simp,by simp⟩
 rwa[show jp (⟨2,7,1,[5],0,[],[],[]⟩:zQ) (⟨2,5,2,3,0,7,0,[]⟩:qO)=⟨(⟨2,7,1,[5],0,[⟨5,3,0,0⟩],[⟨5,3,0,[],true,0⟩],[]⟩:zQ),[⟨3,2,5,7,0,3,0,[]⟩],[⟨1,5,yI,3⟩]⟩by kernel_rfl]at h
theorem zzp:zu Tryz.prog 24 [jv (⟨2,7,1,[5],0,[⟨5,3,0,0⟩],[⟨5,3,0,[],true,0⟩],[]⟩:zQ),gS (⟨#[109]⟩:ByteArray),gI 1,gI 1] (rWE (⟨(⟨2,7,1,[5],0,[⟨5,3,0,0⟩],[⟨5,3,0,[],true,0⟩],[⟨(⟨(⟨#[109]⟩:ByteArray),1,2,true,1,1⟩:Ch),false,0,noEx,noEx⟩]⟩:zQ),[⟨3,2,5,7,0,3,0,[⟨(⟨(⟨#[109]⟩:ByteArray),1,2,true,1,1⟩:Ch),0,0,0,true,0,noEx,noEx⟩]⟩],[⟨5,0,(⟨#[109]⟩:ByteArray),1⟩]⟩,0)):=by
 have h:=zbW (⟨2,7,1,[5],0,[⟨5,3,0,0⟩],[⟨5,3,0,[],true,0⟩],[]⟩:zQ) (⟨#[109]⟩:ByteArray) 1 1 (zbf (by kernel_rfl))
 rwa[show zi3 (⟨2,7,1,[5],0,[⟨5,3,0,0⟩],[⟨5,3,0,[],true,0⟩],[]⟩:zQ) (⟨#[109]⟩:ByteArray) 1 1=(⟨(⟨2,7,1,[5],0,[⟨5,3,0,0⟩],[⟨5,3,0,[],true,0⟩],[⟨(⟨(⟨#[109]⟩:ByteArray),1,2,true,1,1⟩:Ch),false,0,noEx,noEx⟩]⟩:zQ),[⟨3,2,5,7,0,3,0,[⟨(⟨(⟨#[109]⟩:ByteArray),1,2,true,1,1⟩:Ch),0,0,0,true,0,noEx,noEx⟩]⟩],[⟨5,0,(⟨#[109]⟩:ByteArray),1⟩]⟩,0)by kernel_rfl]at h
theorem zyK:zu Tryz.prog 26 [jv (⟨2,7,1,[5],0,[⟨5,3,0,0⟩],[⟨5,3,0,[],true,0⟩],[⟨(⟨(⟨#[109]⟩:ByteArray),1,2,true,1,1⟩:Ch),false,0,noEx,noEx⟩]⟩:zQ),gS (⟨#[109]⟩:ByteArray),gI 8] (rNE ((⟨2,7,1,[5],0,[⟨5,3,0,0⟩],[⟨5,3,0,[],true,0⟩],[⟨(⟨(⟨#[109]⟩:ByteArray),1,2,true,1,1⟩:Ch),true,8,noEx,noEx⟩]⟩:zQ),0)):=by
 have h:=zhx (⟨2,7,1,[5],0,[⟨5,3,0,0⟩],[⟨5,3,0,[],true,0⟩],[⟨(⟨(⟨#[109]⟩:ByteArray),1,2,true,1,1⟩:Ch),false,0,noEx,noEx⟩]⟩:zQ) (⟨#[109]⟩:ByteArray) 8 (zbf (by kernel_rfl))
 rwa[show zer (⟨2,7,1,[5],0,[⟨5,3,0,0⟩],[⟨5,3,0,[],true,0⟩],[⟨(⟨(⟨#[109]⟩:ByteArray),1,2,true,1,1⟩:Ch),false,0,noEx,noEx⟩]⟩:zQ) (⟨#[109]⟩:ByteArray) 8=((⟨2,7,1,[5],0,[⟨5,3,0,0⟩],[⟨5,3,0,[],true,0⟩],[⟨(⟨(⟨#[109]⟩:ByteArray),1,2,true,1,1⟩:Ch),true,8,noEx,noEx⟩]⟩:zQ),0)by kernel_rfl]at h
theorem zzY:zu Tryz.prog 20 [jv (⟨2,7,1,[5],0,[⟨5,3,0,0⟩],[⟨5,3,0,[],true,0⟩],[⟨(⟨(⟨#[109]⟩:ByteArray),1,2,true,1,1⟩:Ch),true,8,noEx,noEx⟩]⟩:zQ),gS (⟨#[109]⟩:ByteArray)] (rII (8,0)):=by
 have h:=ze7 (⟨2,7,1,[5],0,[⟨5,3,0,0⟩],[⟨5,3,0,[],true,0⟩],[⟨(⟨(⟨#[109]⟩:ByteArray),1,2,true,1,1⟩:Ch),true,8,noEx,noEx⟩]⟩:zQ) (⟨#[109]⟩:ByteArray) (zbf (by kernel_rfl)).nok
 rwa[show estN (⟨2,7,1,[5],0,[⟨5,3,0,0⟩],[⟨5,3,0,[],true,0⟩],[⟨(⟨(⟨#[109]⟩:ByteArray),1,2,true,1,1⟩:Ch),true,8,noEx,noEx⟩]⟩:zQ) (⟨#[109]⟩:ByteArray)=(8,0)by kernel_rfl]at h
theorem zAc:zu Tryz.prog 36 [jv (⟨2,7,1,[5],0,[⟨5,3,0,0⟩],[⟨5,3,0,[],true,0⟩],[⟨(⟨(⟨#[109]⟩:ByteArray),1,2,true,1,1⟩:Ch),true,8,noEx,noEx⟩]⟩:zQ)] (gB true):=by
 have h:=zqr (⟨2,7,1,[5],0,[⟨5,3,0,0⟩],[⟨5,3,0,[],true,0⟩],[⟨(⟨(⟨#[109]⟩:ByteArray),1,2,true,1,1⟩:Ch),true,8,noEx,noEx⟩]⟩:zQ) (zbf (by kernel_rfl)).nok
 rwa[show zaj (⟨2,7,1,[5],0,[⟨5,3,0,0⟩],[⟨5,3,0,[],true,0⟩],[⟨(⟨(⟨#[109]⟩:ByteArray),1,2,true,1,1⟩:Ch),true,8,noEx,noEx⟩]⟩:zQ)=true by kernel_rfl]at h
theorem zit:zu Tryz.prog 14 [] (gB true):=by
 refine enx [.tmp 0] Tryz.func14 fun X w0=>?_
 repeat'(first|(refine spl ?_ ?_<;>(intro hb;refine ne ?_))|(refine zl hR ?_;clear hR)|refine s1 ?_|exact True.intro|refine cal (zzI) ?_|refine cal (zwQ) ?_|refine cal (zvI) ?_|(refine zk8 rfl rfl (zv6) (by simp[zc9,ev,vle,cle,yT,ja];done) ?_;simp only[push_cast,seval, *])|refine cal (zzp) ?_|refine cal (zyK) ?_|refine cal (zzY) ?_|refine cal (zAc) ?_|(refine s2 ?_;try with_reducible intro R hR)|fail)
 all_goals(exact absurd hb (by simp[zaO]))
def zuu (c:Cal):List F:=[eI c.kd,eI c.v,eS c.nm,eI c.wh,eI c.x,eI c.p.kd,eI c.p.fr,eI c.p.to,eI c.p.bt,eI c.p.lf,eI c.p.ec,eI c.p.el,.l 19 (c.p.its.map yS)]
attribute [push_cast] zuu
attribute [simp] zuu
abbrev cCl (c:Cal):List C:=[.f (eI c.kd),.f (eI c.v),.f (eS c.nm),.f (eI c.wh),.f (eI c.x),.f (eI c.p.kd),.f (eI c.p.fr),.f (eI c.p.to),.f (eI c.p.bt),.f (eI c.p.lf),.f (eI c.p.ec),.f (eI c.p.el),.f (.l 19 (c.p.its.map yS))]
abbrev gCl (c:Cal):V:=.agg (cCl c)
structure zuX (c:Cal):Prop where
 v:I64 c.v
 nm:c.nm.size≤1048576
 p:PkOk c.p
theorem zsL (n:zQ) (c:Cal) (hF:zy n) (hc:zuX c):zu Tryz.prog 41 [jv n,gCl c] (gCm (Ye n c)):=by
 obtain⟨kd,v,nm,wh,x,⟨pk,fr,to,bt,lf,ec,el,its⟩⟩:=c
 obtain⟨hv,hnm,hp⟩:=hc
 simp only at hv hnm hp
 have hnk:=hF.nok
 refine enx [.cell 4 80] Tryz.func41 fun X w0=>?_
 repeat'(first|(refine spl ?_ ?_<;>(intro hb;refine ne ?_))|(refine zl hR ?_;clear hR)|refine s1 ?_|exact True.intro|refine cal (zfa n v hF) ?_|refine cal (ziG n v hF hv) ?_|refine cal (zbW n nm wh x hF) ?_|refine cal (zix n nm hF) ?_|refine cal (zhx n nm x hF) ?_|refine cal (zfz n hF) ?_|refine cal (zbm n ⟨pk,fr,to,bt,lf,ec,el,its⟩ hF hp) ?_|(refine s2 ?_;try with_reducible intro R hR)|fail)
 (all_goals(repeat(first|clear hR|clear hRA|clear hRn|clear hRr|clear hRe|clear hRL)))
 all_goals(simp only[beq_iff_eq,beq_eq_false_iff_ne,ne_eq]at*)
 all_goals(simp[Ye, *])
theorem zr5 (n:zQ) (c:Cal) (hF:zy n) (hc:zuX c):zu Tryz.prog 42 [jv n,gCl c] (gCm (Ye n c)):=by
 obtain⟨kd,v,nm,wh,x,⟨pk,fr,to,bt,lf,ec,el,its⟩⟩:=c
 obtain⟨hv,hnm,hp⟩:=hc
 simp only at hv hnm hp
 have hnk:=hF.nok
 refine enx [.cell 4 80] Tryz.func42 fun X w0=>?_
 repeat'(first|(refine spl ?_ ?_<;>(intro hb;refine ne ?_))|(refine zl hR ?_;clear hR)|refine s1 ?_|exact True.intro|refine cal (qw n hnk) ?_|refine cal (zj7 n v hF) ?_|refine cal (zgD n v hF) ?_|refine cal (zgY n nm wh x hF hnm) ?_|refine cal (zgU n nm hF) ?_|refine cal (znu n nm x hF) ?_|refine cal (zlt n hF) ?_|refine cal (zf4 n ⟨pk,fr,to,bt,lf,ec,el,its⟩ hF hp) ?_|(refine s2 ?_;try with_reducible intro R hR)|fail)
 (all_goals(repeat(first|clear hR|clear hRA|clear hRn|clear hRr|clear hRe|clear hRL)))
 all_goals(simp only[beq_iff_eq,beq_eq_false_iff_ne,ne_eq]at*)
 all_goals(simp[Ye, *])
end Go.Proofs.YtbcbnfiedgnfpaaGreat
