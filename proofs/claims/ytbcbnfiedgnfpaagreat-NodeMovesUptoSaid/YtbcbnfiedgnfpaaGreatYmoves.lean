/- For every input that a machine can hold (the '..UptoSaid' form: all that the arguments reach weighs at most 1048576) the Go function eddylaw20.NodeMoves of the given program returns true, never panics, and changes nothing that was there before. No further condition. -/
import Derived.Test.YtbcbnfiedgnfpaaGreatZ39
import Derived.Test.YtbcbnfiedgnfpaaGreatZ50
import Derived.Test.YtbcbnfiedgnfpaaGreatZ25
import Derived.Test.YtbcbnfiedgnfpaaGreatZ26
set_option linter.unusedSimpArgs false
set_option linter.unusedVariables false
set_option maxRecDepth 100000
set_option maxHeartbeats 2000000
namespace Go.Proofs.YtbcbnfiedgnfpaaGreat
open Go.Dl
attribute [local irreducible] DW yE zY zA zu zky
attribute [local push_cast] zZ qF qC zN zM zD zE qH qE qz Go.Dl.qY yT qy List.mem_cons List.not_mem_nil or_false forall_eq false_implies implies_true
def Few (w:Wk):Prop:=w.ps.length≤100∧w.es.length≤1000
theorem zfK: ∀ {l:List Int} {w:Wk},zy w.n→(∀p∈l,hasP p w.n.hv=true)→(yg w l).ps.length≤w.ps.length+l.length∧(yg w l).es.length≤w.es.length+8*l.length
 |[],w,_,_=>⟨by simp[yg],by simp[yg]⟩
 |p::l,w,hF,h=>by
  have hp:=h p (List.mem_cons_self ..)
  have h1:=Zd hF hp
  have st:=jY hF hp
  have h2:=zfK (l:=l) (w:=qP w p) st.k (fun q hq=>by rw[st.has];exact h q (List.mem_cons_of_mem _ hq))
  simp only[yg,List.length_cons];omega
theorem zti {w:Wk} {p:qO} (h:zy w.n) (hp:Jg w.n p) (hl:p.its.length≤8) (hw:w.ps=[]∧w.es=[]):Few (ZL w p):=by
 obtain⟨k1,k2,k3,k4⟩:=Jk (kd:=p.kd) h hp.fr hp.ne hp.bt hp.lf
 have e0:=zjF w p.kd p.fr p.bt p.lf
 have s1:=Yx (b:=false) k1 fun x hx=>y8 (hp.its x hx)
 have hh:hasP p.fr (qU (qf w p.kd p.fr p.bt p.lf) false p.its).1.n.hv=true:=by rw[s1.has];exact k2
 have s2:=JQ (kd:=p.kd) s1.k hh hp.its
 have e1:=zc4 (l:=p.its) (w:=qf w p.kd p.fr p.bt p.lf) (b:=false)
 have e2:=zfl (l:=p.its) (w:=(qU (qf w p.kd p.fr p.bt p.lf) false p.its).1) (kd:=p.kd) (fr:=p.fr)
 have f1:=ziS p.its (qf w p.kd p.fr p.bt p.lf) false
 have f2:=zng p.its (qU (qf w p.kd p.fr p.bt p.lf) false p.its).1 p.kd p.fr
 unfold ZL YA
 simp only
 generalize hw3:yo (qU (qf w p.kd p.fr p.bt p.lf) false p.its).1 p.kd p.fr p.its=w3 at*
 have g1:w3.ps=[]:=by rw[e2.1,e1.1,e0.1,hw.1]
 have g2:w3.es.length≤17:=by have:=e0.2;rw[hw.2]at this;simp only[List.length_nil]at this;omega
 have e: ∀w3:Wk,(if p.kd=3 then J1 w3 p.fr p.bt p.lf else w3).n=w3.n:=fun w3=>by split<;>rfl
 have g3:(if p.kd=3 then J1 w3 p.fr p.bt p.lf else w3).ps.length≤1∧(if p.kd=3 then J1 w3 p.fr p.bt p.lf else w3).es.length≤17:=by
  split
  ·simp[J1,g1,g2]
  ·simp[g1,g2]
 have hhl:=jW s2.k.hv
 have a:=zfK (w:=(if p.kd=3 then J1 w3 p.fr p.bt p.lf else w3)) (l:=(qg (if p.kd=3 then J1 w3 p.fr p.bt p.lf else w3).n.hv).filter fun q=>(qU (qf w p.kd p.fr p.bt p.lf) false p.its).2||(Z4 (findH p.fr w.n.hv) p.bt p.lf&&decide (q=p.fr))) (by rw[e];exact s2.k) (fun q hq=>yP.2 (List.mem_filter.1 hq).1)
 have b:=List.length_filter_le (fun q=>(qU (qf w p.kd p.fr p.bt p.lf) false p.its).2||(Z4 (findH p.fr w.n.hv) p.bt p.lf&&decide (q=p.fr))) (qg (if p.kd=3 then J1 w3 p.fr p.bt p.lf else w3).n.hv)
 have c:(qg (if p.kd=3 then J1 w3 p.fr p.bt p.lf else w3).n.hv).length≤16:=by rw[e];unfold qg;rw[List.length_map];exact hhl
 constructor<;>omega
theorem zuV {n:zQ} (p:qO) (h:zy n):Few (jp n p):=by
 unfold jp
 simp only
 split
 ·exact⟨by simp[zem],by simp[zem]⟩
 ·rename_i hc
  simp only[Bool.or_eq_true,Bool.not_eq_true',decide_eq_true_eq,decide_eq_false_iff_not,not_or,Bool.not_eq_false,ne_eq,Decidable.not_not]at hc
  have hp:=Qc hc.1.1 hc.1.2
  repeat' split
  ·exact⟨by simp,by simp⟩
  ·unfold Q9
   repeat' split
   ·exact zti (w:=⟨qW n p,[],[]⟩) (h.see hp) ⟨hp.fr,hp.ne,hp.bt,hp.lf,hp.its⟩ (zfw hc.1.1).1 ⟨rfl,rfl⟩
   ·exact⟨by simp,by simp⟩
   ·exact⟨by simp[zem],by simp[zem]⟩
  ·exact⟨by simp[zem],by simp[zem]⟩
theorem zAg:zep Tryz.prog 38 [some (.int .i64),some (.int .i64),some .str,some (.int .i64)]:=Jn (ks:=[.int .i64,.int .i64,.str,.int .i64]) 3 (by decide) (by kernel_rfl) (by kernel_rfl) (by kernel_rfl)
attribute [push_cast] zAg
theorem zzI:zu Tryz.prog 22 [gI 2,gI 7] (jv (⟨2,7,0,[],0,[],[],[]⟩:zQ)):=zq8 2 7
theorem zbf {n:zQ} (h:zaj n=true):zy n:=(jV.1 h).1
theorem zwQ:zu Tryz.prog 23 [jv (⟨2,7,0,[],0,[],[],[]⟩:zQ),gI 5] (rWE (⟨(⟨2,7,0,[5],0,[],[],[]⟩:zQ),[],[]⟩,0)):=by
 have h:=zfa (⟨2,7,0,[],0,[],[],[]⟩:zQ) 5 (zbf (by kernel_rfl))
 rwa[show zd0 (⟨2,7,0,[],0,[],[],[]⟩:zQ) 5=(⟨(⟨2,7,0,[5],0,[],[],[]⟩:zQ),[],[]⟩,0)by kernel_rfl]at h
theorem zvI:zu Tryz.prog 55 [jv (⟨2,7,0,[5],0,[],[],[]⟩:zQ)] (rW ⟨(⟨2,7,1,[5],0,[],[],[]⟩:zQ),[⟨1,2,5,7,0,0,0,[]⟩],[]⟩):=by
 have h:=zfz (⟨2,7,0,[5],0,[],[],[]⟩:zQ) (zbf (by kernel_rfl))
 rwa[show tickW (⟨2,7,0,[5],0,[],[],[]⟩:zQ)=⟨(⟨2,7,1,[5],0,[],[],[]⟩:zQ),[⟨1,2,5,7,0,0,0,[]⟩],[]⟩by kernel_rfl]at h
theorem zv6:zu Tryz.prog 15 [jv (⟨2,7,1,[5],0,[],[],[]⟩:zQ),ZJ (⟨2,5,2,3,0,7,0,[]⟩:qO)] (rW ⟨(⟨2,7,1,[5],0,[⟨5,3,0,0⟩],[⟨5,3,0,[],true,0⟩],[]⟩:zQ),[⟨3,2,5,7,0,3,0,[]⟩],[⟨1,5,yI,3⟩]⟩):=by
 have h:=zbm (⟨2,7,1,[5],0,[],[],[]⟩:zQ) (⟨2,5,2,3,0,7,0,[]⟩:qO) (zbf (by kernel_rfl)) ⟨by simp,by simp⟩
 rwa[show jp (⟨2,7,1,[5],0,[],[],[]⟩:zQ) (⟨2,5,2,3,0,7,0,[]⟩:qO)=⟨(⟨2,7,1,[5],0,[⟨5,3,0,0⟩],[⟨5,3,0,[],true,0⟩],[]⟩:zQ),[⟨3,2,5,7,0,3,0,[]⟩],[⟨1,5,yI,3⟩]⟩by kernel_rfl]at h
theorem zzp:zu Tryz.prog 24 [jv (⟨2,7,1,[5],0,[⟨5,3,0,0⟩],[⟨5,3,0,[],true,0⟩],[]⟩:zQ),gS (⟨#[109]⟩:ByteArray),gI 1,gI 1] (rWE (⟨(⟨2,7,1,[5],0,[⟨5,3,0,0⟩],[⟨5,3,0,[],true,0⟩],[⟨(⟨(⟨#[109]⟩:ByteArray),1,2,true,1,1⟩:Ch),false,0,noEx,noEx⟩]⟩:zQ),[⟨3,2,5,7,0,3,0,[⟨(⟨(⟨#[109]⟩:ByteArray),1,2,true,1,1⟩:Ch),0,0,0,true,0,noEx,noEx⟩]⟩],[⟨5,0,(⟨#[109]⟩:ByteArray),1⟩]⟩,0)):=by
 have h:=zbW (⟨2,7,1,[5],0,[⟨5,3,0,0⟩],[⟨5,3,0,[],true,0⟩],[]⟩:zQ) (⟨#[109]⟩:ByteArray) 1 1 (zbf (by kernel_rfl))
 rwa[show zi3 (⟨2,7,1,[5],0,[⟨5,3,0,0⟩],[⟨5,3,0,[],true,0⟩],[]⟩:zQ) (⟨#[109]⟩:ByteArray) 1 1=(⟨(⟨2,7,1,[5],0,[⟨5,3,0,0⟩],[⟨5,3,0,[],true,0⟩],[⟨(⟨(⟨#[109]⟩:ByteArray),1,2,true,1,1⟩:Ch),false,0,noEx,noEx⟩]⟩:zQ),[⟨3,2,5,7,0,3,0,[⟨(⟨(⟨#[109]⟩:ByteArray),1,2,true,1,1⟩:Ch),0,0,0,true,0,noEx,noEx⟩]⟩],[⟨5,0,(⟨#[109]⟩:ByteArray),1⟩]⟩,0)by kernel_rfl]at h
theorem zyK:zu Tryz.prog 26 [jv (⟨2,7,1,[5],0,[⟨5,3,0,0⟩],[⟨5,3,0,[],true,0⟩],[⟨(⟨(⟨#[109]⟩:ByteArray),1,2,true,1,1⟩:Ch),false,0,noEx,noEx⟩]⟩:zQ),gS (⟨#[109]⟩:ByteArray),gI 8] (rNE ((⟨2,7,1,[5],0,[⟨5,3,0,0⟩],[⟨5,3,0,[],true,0⟩],[⟨(⟨(⟨#[109]⟩:ByteArray),1,2,true,1,1⟩:Ch),true,8,noEx,noEx⟩]⟩:zQ),0)):=by
 have h:=zhx (⟨2,7,1,[5],0,[⟨5,3,0,0⟩],[⟨5,3,0,[],true,0⟩],[⟨(⟨(⟨#[109]⟩:ByteArray),1,2,true,1,1⟩:Ch),false,0,noEx,noEx⟩]⟩:zQ) (⟨#[109]⟩:ByteArray) 8 (zbf (by kernel_rfl))
 rwa[show zer (⟨2,7,1,[5],0,[⟨5,3,0,0⟩],[⟨5,3,0,[],true,0⟩],[⟨(⟨(⟨#[109]⟩:ByteArray),1,2,true,1,1⟩:Ch),false,0,noEx,noEx⟩]⟩:zQ) (⟨#[109]⟩:ByteArray) 8=((⟨2,7,1,[5],0,[⟨5,3,0,0⟩],[⟨5,3,0,[],true,0⟩],[⟨(⟨(⟨#[109]⟩:ByteArray),1,2,true,1,1⟩:Ch),true,8,noEx,noEx⟩]⟩:zQ),0)by kernel_rfl]at h
theorem zzY:zu Tryz.prog 20 [jv (⟨2,7,1,[5],0,[⟨5,3,0,0⟩],[⟨5,3,0,[],true,0⟩],[⟨(⟨(⟨#[109]⟩:ByteArray),1,2,true,1,1⟩:Ch),true,8,noEx,noEx⟩]⟩:zQ),gS (⟨#[109]⟩:ByteArray)] (rII (8,0)):=by
 have h:=ze7 (⟨2,7,1,[5],0,[⟨5,3,0,0⟩],[⟨5,3,0,[],true,0⟩],[⟨(⟨(⟨#[109]⟩:ByteArray),1,2,true,1,1⟩:Ch),true,8,noEx,noEx⟩]⟩:zQ) (⟨#[109]⟩:ByteArray) (zbf (by kernel_rfl)).nok
 rwa[show estN (⟨2,7,1,[5],0,[⟨5,3,0,0⟩],[⟨5,3,0,[],true,0⟩],[⟨(⟨(⟨#[109]⟩:ByteArray),1,2,true,1,1⟩:Ch),true,8,noEx,noEx⟩]⟩:zQ) (⟨#[109]⟩:ByteArray)=(8,0)by kernel_rfl]at h
theorem zAc:zu Tryz.prog 36 [jv (⟨2,7,1,[5],0,[⟨5,3,0,0⟩],[⟨5,3,0,[],true,0⟩],[⟨(⟨(⟨#[109]⟩:ByteArray),1,2,true,1,1⟩:Ch),true,8,noEx,noEx⟩]⟩:zQ)] (gB true):=by
 have h:=zqr (⟨2,7,1,[5],0,[⟨5,3,0,0⟩],[⟨5,3,0,[],true,0⟩],[⟨(⟨(⟨#[109]⟩:ByteArray),1,2,true,1,1⟩:Ch),true,8,noEx,noEx⟩]⟩:zQ) (zbf (by kernel_rfl)).nok
 rwa[show zaj (⟨2,7,1,[5],0,[⟨5,3,0,0⟩],[⟨5,3,0,[],true,0⟩],[⟨(⟨(⟨#[109]⟩:ByteArray),1,2,true,1,1⟩:Ch),true,8,noEx,noEx⟩]⟩:zQ)=true by kernel_rfl]at h
theorem zit:zu Tryz.prog 14 [] (gB true):=by
 refine enx [.tmp 0] Tryz.func14 fun X w0=>?_
 repeat'(first|(refine spl ?_ ?_<;>(intro hb;refine ne ?_))|(refine zl hR ?_;clear hR)|refine s1 ?_|exact True.intro|refine cal (zzI) ?_|refine cal (zwQ) ?_|refine cal (zvI) ?_|(refine zk8 rfl rfl (zv6) (by simp[zc9,ev,vle,cle,yT,ja];done) ?_;simp only[push_cast,seval, *])|refine cal (zzp) ?_|refine cal (zyK) ?_|refine cal (zzY) ?_|refine cal (zAc) ?_|(refine s2 ?_;try with_reducible intro R hR)|fail)
 all_goals(exact absurd hb (by simp[zaO]))
def zuu (c:Cal):List F:=[eI c.kd,eI c.v,eS c.nm,eI c.wh,eI c.x,eI c.p.kd,eI c.p.fr,eI c.p.to,eI c.p.bt,eI c.p.lf,eI c.p.ec,eI c.p.el,.l 19 (c.p.its.map yS)]
attribute [push_cast] zuu
attribute [simp] zuu
structure zuX (c:Cal):Prop where
 v:I64 c.v
 nm:c.nm.size≤1048576
 p:PkOk c.p
end Go.Proofs.YtbcbnfiedgnfpaaGreat
namespace Go.Proofs.YtbcbnfiedgnfpaaGreat
open Go.Dl Go.ChangeShapes Go.WideShapes Go.ChangeAt Go.RowKit Go.Joins Go.Deep Go.Ed
section
theorem zqm {H:Type} {enc:TypeId×Value→H} {C:Checked} {os:Os} {f:FuncId} {fn:Func} {s:ChangeSpec} {tb:TypeId} {F:Stop.Interp}
  (own:ownKnob C.prog.godebug=none) (started:os.Started) (noInit:C.prog.inits.idxOf? f=none) (hfn:C.prog.funcs[f]? =some fn)
  (witness: ∃(w:World) (tape:Tape) (i:Input),w.os=os∧(w.forCall tape i).Shaped C.prog∧i.vars=[]∧Input.okWide C.prog (w.forCall tape i) .any w.heap.size f i∧
   (Rows.OpenSpec.upto s).pre6 enc C.prog fn [] false (w.forCall tape i).memory i.args∧Assume.holds {} C.prog (lone (Frame.enter C.prog f i.args .normal) [] (w.forCall tape i)))
  (hl:laidOutB C.prog=true) (hpar:fn.params.toList.all (fun t=>C.prog.readableRec t&&decide (t<C.prog.types.size))=true)
  (hres:fn.resultTypes= #[tb]) (hb:C.prog.underlying tb=some .bool) (hv:s.vars=[])
  (hs: ∀ds:List (DataW H),ds.length=fn.params.size→s.fn H (ds++[])= {results:=[.lit (.bool true)],args:=ds})
  (walk: ∀(W:World) (base:Nat) (args:Array Value) (ds:List (DataW H)) (p:List MemPlace),
   (∀(j:Nat) t v,fn.params[j]? =some t→args[j]? =some v→Value.okWide C.prog W .any base t v)→
   DataW.TrodAll enc C.prog W 0 (fun _=>true) true fn.params.toList args.toList ds p→
   Rows.uptoBulkAll ds≤1048576→
   Calls C.prog f args W fun e W'=>e= .returned (.bool true)∧Below W.heap.size W W'):
  ReturnsInHanded {} C os f .any ((Rows.OpenSpec.upto s).pre6 enc C.prog fn [] false) (((Rows.OpenSpec.upto s).at F).post enc C.prog fn false true false false):=by
 refine returnsInHanded_of_cond (C:=C) (s:=Rows.OpenSpec.upto s) (k:=Rows.uptoSmall) rfl own started noInit hfn witness ?_
 intro W base args ds gs before hval hW _ hk _
 have hW':=hW
 obtain⟨p,q,hA,hV,rfl,_,_⟩:=hW
 have hV':DataW.TrodVars enc C.prog W (fun _=>true) s.vars gs q:=hV
 rw[hv]at hV'
 obtain⟨rfl,rfl⟩:=trodVars_none hV'
 have hlen:ds.length=fn.params.size:=by
  have: ∀(ts:List TypeId) (vs:List Value) (ds:List (DataW H)) (ps:List MemPlace),DataW.TrodAll enc C.prog W 0 (fun _=>true) true ts vs ds ps→ds.length=ts.length:=by
   intro ts
   induction ts with
   |nil=>intro vs ds ps h;cases vs<;>cases ds<;>first|rfl|exact h.elim
   | cons t ts ih=>
    intro vs ds ps h
    cases vs with
    |nil=>exact h.elim
    | cons v vs=>
     cases ds with
     |nil=>exact h.elim
     |cons d ds=>
      obtain⟨p,q,_,h2,_⟩:=h
      simp[ih vs ds q h2]
  simpa using this _ _ _ _ hA
 have hk':=of_decide_eq_true hk
 rw[List.append_nil]at hk'
 refine(walk W base args ds p hval hA hk').mono fun e W' ⟨he,bel⟩=>?_
 subst he
 refine⟨_,rfl,ds,[],_,[],p,[],hW',?_,?_,?_,bel.frame _,fun h=>by cases h⟩
 ·show DataW.TrodAll enc C.prog W' W.heap.size _ _ _ _ (s.fn H (ds++[])).results _
  rw[hs ds hlen,hres]
  exact trodAll_mk1 (shut_bool hb _)
 ·show DataW.TrodAll enc C.prog W' 0 _ _ _ _ (s.fn H (ds++[])).args _
  rw[hs ds hlen]
  exact zbn hl bel _ _ _ _ hpar hA
 ·show DataW.TrodVars enc C.prog W' _ s.vars (s.fn H (ds++[])).vars _
  rw[hv,hs ds hlen]
  rfl
theorem zn3 {P:Program} {f:FuncId} {args:List V} (h:zu P f args (gB true)) (W:World) (us:Array Value) (hl:args.length=us.size) (hr: ∀(j:Nat) v u,args[j]? =some v→us[j]? =some u→qr W (.pure (fun b=>b<W.heap.size)) v u):
  Calls P f us W fun e W'=>e= .returned (.bool true)∧Below W.heap.size W W':=
 (h.2 W us (fun b=>b<W.heap.size) (fun _ hb=>hb) hl hr).mono fun e W' ⟨u,I',he,hu,hb,_⟩=>by
  cases hu with
  | c hu=>cases hu with
   |f hu=>cases hu with
    |s=>exact⟨he,hb⟩
theorem zoD {w:World} {I:Nat→Prop} {xs:List F} {us:Array Value} (h:RepFs w I xs us.toList):qr w (.pure I) (.agg (xs.map .f)) (.agg us):=
 .agg ⟨by rw[List.length_map];exact h.1,fun j x u hx hu=>by
  rw[List.getElem?_map]at hx
  cases hq:xs[j]? with
  |none=>rw[hq]at hx;cases hx
  |some y=>rw[hq]at hx;cases hx;exact .f (h.2 j y u hq hu)⟩
section
variable {H:Type} {enc:TypeId×Value→H} {w:World} {B base:Nat} {d:DataW H} {ps:List MemPlace} {v:Value}
theorem zCe (ok:Value.okWide Tryz.prog w .any base 9 v) (h:DataW.Trod enc Tryz.prog w 0 (fun _=>true) true 9 v d ps) (hb:Rows.uptoBulk d≤1048576): ∃s:ByteArray,s.size≤1048576∧qr w (.pure (fun b=>b<w.heap.size)) (gS s) v:=by
 obtain⟨s,rfl⟩:=okWide_string Tryz.underlying9 ok
 obtain⟨m,hm⟩:=h
 obtain⟨x,r,hx⟩:=zjn Tryz.underlying9 hm hb
 simp only[Value.cells,List.cons.injEq,and_true,Value.string.injEq]at r
 subst r
 exact⟨s,hx,.c (.f (.s rfl))⟩
theorem zva (ok:Value.okWide Tryz.prog w .any base 27 v) (h:DataW.Trod enc Tryz.prog w 0 (fun _=>true) true 27 v d ps) (hb:Rows.uptoBulk d≤1048576): ∃n:zQ,NIn n∧qr w (.pure (fun b=>b<w.heap.size)) (jv n) v:=by
 obtain⟨vs,rfl,_⟩:=okWide_struct Tryz.underlying27 ok
 obtain⟨m,hm⟩:=h
 obtain⟨n,hn,hr⟩:=zsh hm hb
 exact⟨n,hn,zoD hr⟩
theorem zmA (ok:Value.okWide Tryz.prog w .any base 30 v) (h:DataW.Trod enc Tryz.prog w 0 (fun _=>true) true 30 v d ps) (hb:Rows.uptoBulk d≤1048576): ∃p:qO,PIn p∧qr w (.pure (fun b=>b<w.heap.size)) (ZJ p) v:=by
 obtain⟨vs,rfl,_⟩:=okWide_struct Tryz.underlying30 ok
 obtain⟨m,hm⟩:=h
 obtain⟨n,hn,hr⟩:=zoh hm hb
 exact⟨n,hn,zoD hr⟩
variable {fuel:Nat} {cs:List Value} {y:DataW H×List MemPlace}
end
theorem zrr {P:Program} {f:FuncId} {fn:Func} {s:ChangeSpec} {c:OpenClaim} (h1:c.inPlace=P.inPlace f) (h2:c.unfollowed=P.unfollowed f) (h3:c.recurses=P.recurses f) (h4:c.named=P.varsNamed f)
  (rest:(c.wf (OpenSpec.ofChange s)&&laidOutB P&&mapsRowed P&&
 fn.params.all (P.readableRec ·)&&namedTie P c.named s.vars&&
 (c.stops==[])&&(P.stops==[])&&(c.knobs==[])&&(P.stopKnobs==[])&&
 (c.maps==(fn.params.toList++s.plain.varTypes P).any (P.mapsRec ·))&&(c.ifaces==(fn.params.toList++s.plain.varTypes P).any (P.ifacesRec ·))&&(c.mapsOut==P.mapsAmong fn.resultTypes.toList)&&
 (c.loops==(fn.params.toList++s.plain.varTypes P).any (P.loopsFrom ·))&&(c.wideKeys==(fn.params.toList++s.plain.varTypes P++fn.resultTypes.toList).any (P.wideKeysFrom ·))&&
 s.vars.all (P.varReadable ·)&&fn.resultTypes.all (fun t=>P.readableRec t&&decide (t<P.types.size))&&(c.ifacesOut==fn.resultTypes.toList.any (P.ifacesRec ·))&&(c.loopsOut==fn.resultTypes.toList.any (P.loopsFrom ·))&&(c.plainKeys==P.plainKeys)&&c.shortTexts.isNone&&P.stopsHeard&&P.mayEnter&&(c.lifted==P.liftsFinal)&&(P.make==some c.make)&&(c.kinds==(if c.domain.isEmpty then []else fn.params.toList.map fun t=>match P.underlying t with|some (.int k)=>some k| _=>none))&&(c.pinned==c.pinnedBy)&&
 (c.veiled==(fn.params.toList++s.plain.varTypes P++fn.resultTypes.toList).any (P.veiledRec ·))&&c.veiledFits P fn.params.toList (fn.params.toList++s.plain.varTypes P++fn.resultTypes.toList))=true):
  joinedFacts P f fn s c=true:=by
 have g1:(c.inPlace==P.inPlace f)=true:=by rw[h1];exact beq_self_eq_true _
 have g2:(c.unfollowed==P.unfollowed f)=true:=by rw[h2];exact beq_self_eq_true _
 have g3:(c.recurses==P.recurses f)=true:=by rw[h3];exact beq_self_eq_true _
 have g4:(c.named==P.varsNamed f)=true:=by rw[h4];exact beq_self_eq_true _
 unfold joinedFacts
 rw[g1,g2,g3,g4,Bool.and_true,Bool.and_true,Bool.and_true,Bool.and_true]
 exact rest
theorem own:ownKnob Tryz.prog.godebug=none:=by kernel_rfl
theorem zvj:laidOutB Tryz.prog=true:=by kernel_rfl
end
end Go.Proofs.YtbcbnfiedgnfpaaGreat
namespace Go.Proofs.YtbcbnfiedgnfpaaGreat.nodeMoves
open Go.Dl Go.ChangeShapes Go.WideShapes Go.ChangeAt Go.RowKit Go.Joins Go.Deep Go.Ed
attribute [local irreducible] DW yE zY zA zu zky
attribute [local push_cast] zZ qF qC zN zM zD zE qH qE qz Go.Dl.qY yT qy List.mem_cons List.not_mem_nil or_false forall_eq false_implies implies_true
theorem zE3 {nm:ByteArray} {es:List ZF} {k:Nat} (h:k<es.length):mvd nm (es.take (k+1))=mvd nm (es.take k)+if es[k].kd=3∧es[k].nm=nm then es[k].num else 0:=by
 rw[List.take_succ_eq_append_getElem h,zAm];simp[mvd]
theorem zFA (n m:zQ) (fr to bt lf ec el:Int) (its:List It) (nm:ByteArray) (ps:List qO) (es:List ZF) (hfit:zu Tryz.prog 13 [jv n] (gB true)) (hr:zu Tryz.prog 15 [jv n,ZJ ⟨3,fr,to,bt,lf,ec,el,its⟩] (rW ⟨m,ps,es⟩)) (hl:es.length≤1000) (c:Nat) (hc:c<es.length) (h5:es[c].kd=5) (hn:es[c].nm=nm) (hlt: ∀i (h:i<c),es[i].kd≠3):
  zu Tryz.prog 4 [jv n,ZJ ⟨3,fr,to,bt,lf,ec,el,its⟩,gS nm] (gB true):=by
 replace hlt:=Lib.hid hlt
 replace h5:=Lib.hid h5
 replace hn:=Lib.hid hn
 refine enx [.tmp 6] Tryz.func4 fun X w0=>?_
 repeat'(first|(refine spl ?_ ?_<;>(intro hb;refine ne ?_))|(refine zl hR ?_;clear hR)|refine s1 ?_|exact True.intro|refine cal (hfit) ?_|refine cal (hr) ?_|refine cal (zit) ?_|((with_reducible refine zO ?_);refine frx (ι:=Int) (es.length) (fun k x=>St.ofA [(2,gS nm),(3,.loc 3 0),(4,.loc 4 0),(7,.loc 7 0),(9,zxT es),(10,gI x),(11,gI k)] [(3,27,cNd n),(4,30,cPk ⟨3,fr,to,bt,lf,ec,el,its⟩),(7,27,cNd m)] []) (fun k x=>k≤c) 0 ?_ (fun k x hJk hkk R hR=>?_))|((with_reducible refine qn ?_);have j1:=hJk;clear hJk;have hkl:k<es.length:=(by omega);have hke:k=c→es[k].kd=5∧es[k].nm=nm:=(fun e=>by subst e;exact⟨h5,hn⟩);have hkn:k<c→¬es[k].kd=3:=(fun e=>(show∀i (h:i<c),es[i].kd≠3 from hlt) k e))|refine rdb [] ?_|refine fnx (x) ?_ ?_|(refine s2 ?_;try with_reducible intro R hR)|fail)
 all_goals(first|trivial|(exfalso;grind[zis])|grind[zis])
theorem zEO {n m:zQ} {nm:ByteArray} {fr:Int} {ps:List qO} {es:List ZF} (hw:zCR nm fr n ⟨m,ps,es⟩) (hn:NOk n) (hm:zy m) {i:Nat} (hi:i<n.hv.length): ∃p1 b1 i1 ls1 pe1 mi1,zu Tryz.prog 17 [Zs m.hv,gI n.hv[i].peer] (rHB (⟨p1,b1,i1,ls1,pe1,mi1⟩,true))∧
  ((n.hv[i].peer !=fr)=false∨(n.hv[i].peer !=fr)=true∧∃v w f,zu Tryz.prog 18 [Yb p1 b1 i1 ls1 pe1 mi1,gS nm] (gG (v,w,f))∧zu Tryz.prog 18 [gH n.hv[i],gS nm] (gG (v,w,f))):=by
 obtain⟨h1,h2⟩:=hw.regs _ (List.getElem_mem hi)
 have c:=ql m.hv n.hv[i].peer hm.hok
 have l1:=jq hm n.hv[i].peer
 unfold hasP at h1
 simp only at h1 h2
 generalize findH n.hv[i].peer m.hv=u at c h1 h2 l1
 obtain⟨⟨p1,b1,i1,ls1,pe1,mi1⟩,w1⟩:=u
 simp only at h1 h2 l1
 subst h1
 refine⟨p1,b1,i1,ls1,pe1,mi1,c,?_⟩
 by_cases hp:n.hv[i].peer=fr
 ·left;simpa using hp
 ·right
  refine⟨by simpa using hp,?_⟩
  have r1:=zah p1 b1 i1 ls1 pe1 mi1 nm l1
  have r2:=zah n.hv[i].peer n.hv[i].boot n.hv[i].life n.hv[i].lines n.hv[i].pend n.hv[i].miss nm (hn.hok.at hi)
  rw[h2 hp]at r1
  generalize findL nm n.hv[i].lines=y at r1 r2
  obtain⟨v,w,f⟩:=y
  exact⟨v,w,f,r1,r2⟩
theorem zEM {nm:ByteArray} {es:List ZF} {k:Nat} {x:Int} {hk:k<es.length} (h:wr (mvd nm (es.take k))=x) (hst:mvd nm (es.take (k+1))=mvd nm (es.take k)+if es[k].kd=3∧es[k].nm=nm then es[k].num else 0):
  (es[k].kd=3∧es[k].nm=nm→wr (mvd nm (es.take (k+1)))=wr (x+es[k].num))∧(¬(es[k].kd=3∧es[k].nm=nm)→wr (mvd nm (es.take (k+1)))=x):=by
 subst h
 refine⟨fun hc=>?_,fun hc=>?_⟩
 ·rw[hst,if_pos hc];simp only[wr,IntKind.wrap_i64];omega
 ·rw[hst,if_neg hc,Int.add_zero]
theorem zFj {x z w id:Int} (hx:wr z=x) (h:z≠0→flowB z=true∧w=id):x=0∨(x !=0)=true∧(w !=id)=false∧x≤2147483647∧ -2147483647≤x:=by
 by_cases hz:z=0
 ·left;rw[←hx,hz];rfl
 ·obtain⟨h1,h2⟩:=h hz
  have:=ZQ h1
  rw[zlU (by omega)]at hx
  subst hx
  right;exact⟨by simpa using hz,by simpa using h2,by omega,by omega⟩
theorem zF6 {nm:ByteArray} {es:List ZF} {k:Nat} {fr:Int} {hk:k<es.length} (h:es[k].kd=3→es[k].nm=nm→es[k].num≠0∧es[k].pr=fr) (h1:(es[k].kd==3)=true) (h2:(es[k].nm.toList==nm.toList)=true) (h3:(es[k].num==0)=true∨(es[k].pr !=fr)=true):False:=by
 have h4:=h (beq_iff_eq.1 h1) (zf3 h2)
 rcases h3 with h3|h3
 ·exact h4.1 (beq_iff_eq.1 h3)
 ·exact(bne_iff_ne.1 h3) h4.2
theorem zGh {nm:ByteArray} {es:List ZF} {k:Nat} {x:Int} {hk:k<es.length} (h:wr (mvd nm (es.take k))=x) (hst:mvd nm (es.take (k+1))=mvd nm (es.take k)+if es[k].kd=3∧es[k].nm=nm then es[k].num else 0)
  (h1:(es[k].kd==3)=true) (h2:(es[k].nm.toList==nm.toList)=true):wr (mvd nm (es.take (k+1)))=wr (x+es[k].num):=(zEM h hst).1 ⟨beq_iff_eq.1 h1,zf3 h2⟩
theorem zGm {q1 q2 g1 g2 ou:Int} (h:q2=0→g2=0→g1=wr (q1 - ou)) (h1:(q2 !=0)=false) (h2:(g2 !=0)=false) (h3:(g1==IntKind.i64.wrap (q1 - ou))=false):False:=by
 have h4:=h (by simpa using h1) (by simpa using h2)
 rw[h4]at h3
 simp at h3
set_option maxHeartbeats 8000000 in
theorem zFw (n m:zQ) (fr to bt lf ec el:Int) (its:List It) (nm:ByteArray) (ps:List qO) (es:List ZF) (hn:NOk n) (hm:zy m) (hfit:zu Tryz.prog 13 [jv n] (gB true)) (hr:zu Tryz.prog 15 [jv n,ZJ ⟨3,fr,to,bt,lf,ec,el,its⟩] (rW ⟨m,ps,es⟩)) (hl:es.length≤1000) (hw:zCR nm fr n ⟨m,ps,es⟩):
  zu Tryz.prog 4 [jv n,ZJ ⟨3,fr,to,bt,lf,ec,el,its⟩,gS nm] (gB true):=by
 have oh:=hm.hok
 have nh:=hn.hv
 have l0:=jq hm fr
 have r1:=zbp n nm fr hn
 have r2:=zbp m nm fr hm.nok
 have ee:=ze7 m nm hm.nok
 have f0:=ql m.hv fr oh
 have h1:=hw.one
 have he:=hw.est
 rw[show rstN m nm fr=rstN n nm fr from hw.rest]at r2
 simp only at h1 he
 rw[show rstN m nm fr=rstN n nm fr from hw.rest]at he
 generalize rstN n nm fr=q at r1 r2 he
 generalize estN m nm=g at ee he
 generalize findH fr m.hv=u at f0 h1 he l0
 obtain⟨q1,q2⟩:=q
 obtain⟨g1,g2⟩:=g
 obtain⟨⟨p2,b2,i2,ls2,pe2,mi2⟩,w2⟩:=u
 simp only at h1 he l0
 have rg:=zah p2 b2 i2 ls2 pe2 mi2 nm l0
 generalize findL nm ls2=y at h1 he rg
 obtain⟨v,w,f⟩:=y
 simp only at h1 he
 have ro:=zda v w f n.id fr
 generalize outR v w f n.id fr=ou at he ro
 replace hw:=Lib.hid hw
 replace h1:=Lib.hid h1
 replace he:=Lib.hid he
 have hone:True:=trivial
 refine enx [.tmp 6] Tryz.func4 fun X w0=>?_
 repeat'(first|(refine spl ?_ ?_<;>(intro hb;refine ne ?_))|(refine zl hR ?_;clear hR)|refine s1 ?_|exact True.intro|refine cal (hfit) ?_|refine cal (hr) ?_|refine cal (zit) ?_|(have hgd:True:=hone;clear hone;((with_reducible refine zO ?_);refine frx (ι:=Int) (es.length) (fun k x=>St.ofA [(2,gS nm),(3,.loc 3 0),(4,.loc 4 0),(7,.loc 7 0),(9,zxT es),(10,gI x),(11,gI k)] [(3,27,cNd n),(4,30,cPk ⟨3,fr,to,bt,lf,ec,el,its⟩),(7,27,cNd m)] []) (fun k x=>wr (mvd nm (es.take k))=x) 0 ?_ (fun k x hJk hkk R hR=>?_)))|(have hge:es.length≤k:=(by omega);have exq:=hJk;clear hJk;rw[List.take_of_length_le hge]at exq;have hx3:=zFj exq (show mvd nm es≠0→flowB (mvd nm es)=true∧w=n.id from h1);clear exq;replace hx3:=Lib.hid hx3;have htw:True:=trivial)|(have hge2:n.hv.length≤i:=(by omega);have hx4:x=0∨(x !=0)=true∧(w !=n.id)=false∧x≤2147483647∧ -2147483647≤x:=hx3;clear hx3;(rcases hx4 with hx4|⟨hx4,hx5,hx6,hx7⟩);(all_goals(try subst hx4)))|(have hgd:True:=htw;clear htw;((with_reducible refine zO ?_);refine frx (ι:=Unit) (n.hv.length) (fun i _=>St.ofA [(2,gS nm),(3,.loc 3 0),(4,.loc 4 0),(7,.loc 7 0),(10,gI x),(12,gI i)] [(3,27,cNd n),(4,30,cPk ⟨3,fr,to,bt,lf,ec,el,its⟩),(7,27,cNd m)] []) (fun _ _=>True) () ?_ (fun i y hJi hki R hR=>?_)))|((with_reducible refine qn ?_);have j1:=hJk;clear hJk;have hkl:k<es.length:=(by omega);have hal:es[k].kd=3→es[k].nm=nm→es[k].num≠0∧es[k].pr=fr:=((show zCR nm fr n ⟨m,ps,es⟩from hw).all es[k] (List.getElem_mem hkl));have hst:=zE3 (nm:=nm) hkl;replace j1:=Lib.hid j1;replace hst:=Lib.hid hst;replace hal:=Lib.hid hal)|((with_reducible refine qn ?_);have hti:True:=hJi;clear hJi;have hil:i<n.hv.length:=(by omega);obtain⟨p1,b1,i1,ls1,pe1,mi1,c17,c18⟩:=zEO (show zCR nm fr n ⟨m,ps,es⟩from hw) hn hm hil;(rcases c18 with hpf|⟨hpf,v1,w1,f1,c18,c19⟩))|refine cal (c17) ?_|refine rdb [] ?_|refine cad (c18) ?_|refine cad (c19) ?_|refine lat ?_|refine fnx (()) ?_ ?_|refine fnx (x) ?_ ?_|refine fnx (wr (x+es[k].num)) ?_ ?_|refine cal (r1) ?_|refine cal (r2) ?_|refine cal (ee) ?_|refine cal (f0) ?_|refine cal (rg) ?_|refine cal (ro) ?_|(refine s2 ?_;try with_reducible intro R hR)|fail)
 all_goals(first|trivial|(refine zGh j1 hst ?_ ?_<;>assumption)|(refine(zF6 (show es[k].kd=3→es[k].nm=nm→es[k].num≠0∧es[k].pr=fr from hal) ?_ ?_ (.inl ?_)).elim<;>assumption)|(refine(zF6 (show es[k].kd=3→es[k].nm=nm→es[k].num≠0∧es[k].pr=fr from hal) ?_ ?_ (.inr ?_)).elim<;>assumption)|(refine(zGm (show q2=0→g2=0→g1=wr (q1 - ou)from he) ?_ ?_ ?_).elim<;>assumption)|(refine(zEM j1 hst).2 ?_;grind[zis])|(exfalso;grind))
theorem law_c (n:zQ) (p:qO) (nm:ByteArray) (hn:NIn n) (hp:PkOk p):zu Tryz.prog 4 [jv n,ZJ p,gS nm] (gB true):=by
 have hok:=hn.ok
 by_cases hf:zaj n=true
 ·have hK:=zbf hf
  have hfit:=zgv n hok
  rw[hf]at hfit
  have hr:=zbm n p hK hp
  have hfw:=(zuV p hK).2
  have hm:=(zk3 p hK).1
  have hmv:=zFy (n:=n) (p:=p) nm hf
  generalize jp n p=w at hr hm hfw hmv
  obtain⟨kd,fr,to,bt,lf,ec,el,its⟩:=p
  obtain⟨m,ps,es⟩:=w
  by_cases hk:kd=3
  ·subst hk
   rcases hmv rfl with⟨A,e,B,h1,h2,h3,h4⟩|h
   ·simp only at h1
    subst h1
    refine zFA n m fr to bt lf ec el its nm ps _ hfit hr hfw A.length (by simp) (by simpa using h2) (by simpa using h3) fun i hi=>?_
    rw[List.getElem_append_left hi];exact h4 _ (List.getElem_mem hi)
   ·exact zFw n m fr to bt lf ec el its nm ps es hok hm hfit hr hfw h
  ·have hq:(kd==3)=false:=by simpa using hk
   refine enx [.tmp 6] Tryz.func4 fun X w0=>?_
   repeat'(first|(refine spl ?_ ?_<;>(intro hb;refine ne ?_))|(refine zl hR ?_;clear hR)|refine s1 ?_|exact True.intro|refine cal (hfit) ?_|refine cal (zit) ?_|(refine s2 ?_;try with_reducible intro R hR)|fail)
   all_goals(exfalso;grind)
 ·have hfit:=zgv n hok
  rw[show zaj n=false by simpa using hf]at hfit
  refine enx [.tmp 6] Tryz.func4 fun X w0=>?_
  repeat'(first|(refine spl ?_ ?_<;>(intro hb;refine ne ?_))|(refine zl hR ?_;clear hR)|refine s1 ?_|exact True.intro|refine cal (hfit) ?_|refine cal (zit) ?_|(refine s2 ?_;try with_reducible intro R hR)|fail)
set_option maxRecDepth 100000 in
theorem lifted (os:Os) (started:os.Started) (H:Type) (enc:TypeId×Value→H) (F:Stop.Interp):
  ReturnsInHanded {} Tryz.checked os 4 .any ((Rows.OpenSpec.upto Rows.nodeMovesSpec).pre6 enc Tryz.prog Tryz.f4 Rows.nodeMovesUptoRow.domain false) (((Rows.OpenSpec.upto Rows.nodeMovesSpec).at F).post enc Tryz.prog Tryz.f4 false true false false):=by
 refine zqm (C:=Tryz.checked) own started (by kernel_rfl) Tryz.func4
  (OpenSpec.witness (enc:=enc) (C:=Tryz.checked) (s:=Rows.OpenSpec.upto Rows.nodeMovesSpec) (k:=Rows.uptoSmall) rfl false ⟨#[],#[.agg #[.int .i64 0,.int .i64 0,.int .i64 0,.slice none 0 0,.int .i64 0,.slice none 0 0,.slice none 0 0,.slice none 0 0],.agg #[.int .i64 0,.int .i64 0,.int .i64 0,.int .i64 0,.int .i64 0,.int .i64 0,.int .i64 0,.slice none 0 0],.string .empty],[]⟩ 8 (by kernel_rfl) (by kernel_rfl) (by kernel_rfl)
   (x:=([.agg [.lit (.int .i64 0),.lit (.int .i64 0),.lit (.int .i64 0),.nil,.lit (.int .i64 0),.nil,.nil,.nil],.agg [.lit (.int .i64 0),.lit (.int .i64 0),.lit (.int .i64 0),.lit (.int .i64 0),.lit (.int .i64 0),.lit (.int .i64 0),.lit (.int .i64 0),.nil],.lit (.string [])],[],[])) (by kernel_rfl) rfl (by kernel_rfl))
  zvj (by kernel_rfl) rfl Tryz.underlying4 rfl (fun ds h=>by match ds,h with|[d0,d1,d2],_=>rfl) ?_
 intro W base args ds p hval0 hA0 hb
 have hval: ∀(j:Nat) t v,Tryz.f4.params[j]? =some t→args[j]? =some v→Value.okWide Tryz.prog W .any base t v:=hval0
 have hA:DataW.TrodAll enc Tryz.prog W 0 (fun _=>true) true Tryz.f4.params.toList args.toList ds p:=hA0
 rw[Tryz.params4]at hA hval
 clear hA0 hval0
 obtain⟨v0,vs0,d0,ds0,p0,q0,hargs,rfl,rfl,h0,r0⟩:=trodAll_cons hA
 obtain⟨v1,vs1,d1,ds1,p1,q1,rfl,rfl,rfl,h1,r1⟩:=trodAll_cons r0
 obtain⟨v2,vs2,d2,ds2,p2,q2,rfl,rfl,rfl,h2,r2⟩:=trodAll_cons r1
 obtain⟨rfl,rfl,rfl⟩:=trodAll_nil r2
 obtain rfl:=zfm hargs
 simp only[Rows.uptoBulkAll]at hb
 obtain⟨x0,g0,k0⟩:=zva (hval 0 27 v0 rfl rfl) h0 (by omega)
 obtain⟨x1,g1,k1⟩:=zmA (hval 1 30 v1 rfl rfl) h1 (by omega)
 obtain⟨x2,g2,k2⟩:=zCe (hval 2 9 v2 rfl rfl) h2 (by omega)
 exact zn3 (law_c x0 x1 x2 g0 g1.ok) W _ rfl (fun j v u hv hu=>by
  match j with
  |0=>cases hv;cases hu;exact k0
  |1=>cases hv;cases hu;exact k1
  |2=>cases hv;cases hu;exact k2
  |j+3=>cases hv)
theorem zzW:Rows.nodeMovesUptoRow.inPlace=Tryz.prog.inPlace 4:=by kernel_rfl
theorem zug:Rows.nodeMovesUptoRow.unfollowed=Tryz.prog.unfollowed 4:=by kernel_rfl
theorem zyJ:Rows.nodeMovesUptoRow.recurses=Tryz.prog.recurses 4:=by rw[Program.recurses,←zug];rfl
theorem zzJ:Rows.nodeMovesUptoRow.named=Tryz.prog.varsNamed 4:=by kernel_rfl
theorem zAT:joinedFacts Tryz.prog 4 Tryz.f4 (Rows.OpenSpec.upto Rows.nodeMovesSpec).bare Rows.nodeMovesUptoRow=true:=zrr zzW zug zyJ zzJ (by kernel_rfl)
theorem proved:Rows.NodeMovesUptoSaid:=
 OpenClaim.holds_of_cond 4 Tryz.f4 rfl rfl rfl rfl rfl rfl rfl ⟨rfl,rfl,rfl,rfl,rfl⟩ rfl rfl rfl rfl rfl (by kernel_rfl) Tryz.func4 zAT
  (of_decide_eq_true (by kernel_rfl)) (by unfold Func.isWrapper;first|(rw[if_pos (by decide+kernel)];kernel_rfl)|(rw[if_neg (by decide+kernel)];exact⟨rfl,rfl⟩))
  (fun os started H enc _ F=>lifted os started H enc F)
end Go.Proofs.YtbcbnfiedgnfpaaGreat.nodeMoves
