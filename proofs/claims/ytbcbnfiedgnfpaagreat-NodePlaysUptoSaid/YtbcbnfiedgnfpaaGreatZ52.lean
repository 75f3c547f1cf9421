import Derived.Test.YtbcbnfiedgnfpaaGreatZ25
import Derived.Test.YtbcbnfiedgnfpaaGreatZ26
import Derived.Test.YtbcbnfiedgnfpaaGreatZ51
set_option linter.unusedSimpArgs false
set_option linter.unusedVariables false
set_option maxRecDepth 100000
set_option maxHeartbeats 2000000
namespace Go.Proofs.YtbcbnfiedgnfpaaGreat
open Go.Dl Go.ChangeShapes Go.WideShapes Go.ChangeAt Go.RowKit Go.Joins Go.Deep Go.Ed
section
theorem zqm {H:Type} {enc:TypeId×Value→H} {C:Checked} {os:Os} {f:FuncId} {fn:Func} {s:ChangeSpec} {tb:TypeId} {F:Stop.Interp}
  (own:ownKnob C.prog.godebug=none) (started:os.Started) (noInit:C.prog.inits.idxOf? f=none) (hfn:C.prog.funcs[f]? =some fn)
  (witness: ∃(w:World) (tape:Tape) (i:Input),w.os=os∧(w.forCall tape i).Shaped C.prog∧i.vars=[]∧Input.okWide C.prog (w.forCall tape i) .any w.heap.size f i∧
   (Rows.OpenSpec.upto s).pre6 enc C.prog fn [] false (w.forCall tape i).memory i.args∧Assume.holds {} C.prog (lone (Frame.enter C.prog f i.args .normal) [] (w.forCall tape i)))
  (hl:laidOutB C.prog=true) (hpar:fn.params.toList.all (fun t=>C.prog.readableRec t&&decide (t<C.prog.types.size))=true)
  (hres:fn.resultTypes= #[tb]) (hb:C.prog.underlying tb=some .bool) (hv:s.vars=[])
  (hs: ∀ds:List (DataW H),ds.length=fn.params.size→s.fn H (ds++[])= {results:=[.lit (.bool true)],args:=ds})
  (walk: ∀(W:World) (base:Nat) (args:Array Value) (ds:List (DataW H)) (p:List MemPlace),
   (∀(j:Nat) t v,fn.params[j]? =some t→args[j]? =some v→Value.okWide C.prog W .any base t v)→
   DataW.TrodAll enc C.prog W 0 (fun _=>true) true fn.params.toList args.toList ds p→
   Rows.uptoBulkAll ds≤1048576→
   Calls C.prog f args W fun e W'=>e= .returned (.bool true)∧Below W.heap.size W W'):
  ReturnsInHanded {} C os f .any ((Rows.OpenSpec.upto s).pre6 enc C.prog fn [] false) (((Rows.OpenSpec.upto s).at F).post enc C.prog fn false true false false):=by
 refine returnsInHanded_of_cond (C:=C) (s:=Rows.OpenSpec.upto s) (k:=Rows.uptoSmall) rfl own started noInit hfn witness ?_
 intro W base args ds gs before hval hW _ hk _
 have hW':=hW
 obtain⟨p,q,hA,hV,rfl,_,_⟩:=hW
 have hV':DataW.TrodVars enc C.prog W (fun _=>true) s.vars gs q:=hV
 rw[hv]at hV'
 obtain⟨rfl,rfl⟩:=trodVars_none hV'
 have hlen:ds.length=fn.params.size:=by
  have: ∀(ts:List TypeId) (vs:List Value) (ds:List (DataW H)) (ps:List MemPlace),DataW.TrodAll enc C.prog W 0 (fun _=>true) true ts vs ds ps→ds.length=ts.length:=by
   intro ts
   induction ts with
   |nil=>intro vs ds ps h;cases vs<;>cases ds<;>first|rfl|exact h.elim
   | cons t ts ih=>
    intro vs ds ps h
    cases vs with
    |nil=>exact h.elim
    | cons v vs=>
     cases ds with
     |nil=>exact h.elim
     |cons d ds=>
      obtain⟨p,q,_,h2,_⟩:=h
      simp[ih vs ds q h2]
  simpa using this _ _ _ _ hA
 have hk':=of_decide_eq_true hk
 rw[List.append_nil]at hk'
 refine(walk W base args ds p hval hA hk').mono fun e W' ⟨he,bel⟩=>?_
 subst he
 refine⟨_,rfl,ds,[],_,[],p,[],hW',?_,?_,?_,bel.frame _,fun h=>by cases h⟩
 ·show DataW.TrodAll enc C.prog W' W.heap.size _ _ _ _ (s.fn H (ds++[])).results _
  rw[hs ds hlen,hres]
  exact trodAll_mk1 (shut_bool hb _)
 ·show DataW.TrodAll enc C.prog W' 0 _ _ _ _ (s.fn H (ds++[])).args _
  rw[hs ds hlen]
  exact zbn hl bel _ _ _ _ hpar hA
 ·show DataW.TrodVars enc C.prog W' _ s.vars (s.fn H (ds++[])).vars _
  rw[hv,hs ds hlen]
  rfl
theorem zn3 {P:Program} {f:FuncId} {args:List V} (h:zu P f args (gB true)) (W:World) (us:Array Value) (hl:args.length=us.size) (hr: ∀(j:Nat) v u,args[j]? =some v→us[j]? =some u→qr W (.pure (fun b=>b<W.heap.size)) v u):
  Calls P f us W fun e W'=>e= .returned (.bool true)∧Below W.heap.size W W':=
 (h.2 W us (fun b=>b<W.heap.size) (fun _ hb=>hb) hl hr).mono fun e W' ⟨u,I',he,hu,hb,_⟩=>by
  cases hu with
  | c hu=>cases hu with
   |f hu=>cases hu with
    |s=>exact⟨he,hb⟩
theorem zoD {w:World} {I:Nat→Prop} {xs:List F} {us:Array Value} (h:RepFs w I xs us.toList):qr w (.pure I) (.agg (xs.map .f)) (.agg us):=
 .agg ⟨by rw[List.length_map];exact h.1,fun j x u hx hu=>by
  rw[List.getElem?_map]at hx
  cases hq:xs[j]? with
  |none=>rw[hq]at hx;cases hx
  |some y=>rw[hq]at hx;cases hx;exact .f (h.2 j y u hq hu)⟩
section
variable {H:Type} {enc:TypeId×Value→H} {w:World} {B base:Nat} {d:DataW H} {ps:List MemPlace} {v:Value}
theorem zxj (ok:Value.okWide Tryz.prog w .any base 3 v) (h:DataW.Trod enc Tryz.prog w 0 (fun _=>true) true 3 v d ps): ∃n:Int,I64 n∧qr w (.pure (fun b=>b<w.heap.size)) (gI n) v:=by
 obtain⟨n,rfl⟩:=okWide_int Tryz.underlying3 ok
 obtain⟨m,hm⟩:=h
 obtain⟨x,r,hx⟩:=qp Tryz.underlying3 hm
 simp only[Value.cells,List.cons.injEq,and_true,Value.int.injEq,true_and]at r
 subst r
 exact⟨n,hx,.c (.f (.s rfl))⟩
theorem zmD (ok:Value.okWide Tryz.prog w .any base 2 v) (h:DataW.Trod enc Tryz.prog w 0 (fun _=>true) true 2 v d ps): ∃n:Int,I64 n∧qr w (.pure (fun b=>b<w.heap.size)) (gI n) v:=by
 obtain⟨n,rfl⟩:=okWide_int Tryz.underlying2 ok
 obtain⟨m,hm⟩:=h
 obtain⟨x,r,hx⟩:=qp Tryz.underlying2 hm
 simp only[Value.cells,List.cons.injEq,and_true,Value.int.injEq,true_and]at r
 subst r
 exact⟨n,hx,.c (.f (.s rfl))⟩
theorem zCe (ok:Value.okWide Tryz.prog w .any base 9 v) (h:DataW.Trod enc Tryz.prog w 0 (fun _=>true) true 9 v d ps) (hb:Rows.uptoBulk d≤1048576): ∃s:ByteArray,s.size≤1048576∧qr w (.pure (fun b=>b<w.heap.size)) (gS s) v:=by
 obtain⟨s,rfl⟩:=okWide_string Tryz.underlying9 ok
 obtain⟨m,hm⟩:=h
 obtain⟨x,r,hx⟩:=zjn Tryz.underlying9 hm hb
 simp only[Value.cells,List.cons.injEq,and_true,Value.string.injEq]at r
 subst r
 exact⟨s,hx,.c (.f (.s rfl))⟩
theorem zva (ok:Value.okWide Tryz.prog w .any base 27 v) (h:DataW.Trod enc Tryz.prog w 0 (fun _=>true) true 27 v d ps) (hb:Rows.uptoBulk d≤1048576): ∃n:zQ,NIn n∧qr w (.pure (fun b=>b<w.heap.size)) (jv n) v:=by
 obtain⟨vs,rfl,_⟩:=okWide_struct Tryz.underlying27 ok
 obtain⟨m,hm⟩:=h
 obtain⟨n,hn,hr⟩:=zsh hm hb
 exact⟨n,hn,zoD hr⟩
theorem zmA (ok:Value.okWide Tryz.prog w .any base 30 v) (h:DataW.Trod enc Tryz.prog w 0 (fun _=>true) true 30 v d ps) (hb:Rows.uptoBulk d≤1048576): ∃p:qO,PIn p∧qr w (.pure (fun b=>b<w.heap.size)) (ZJ p) v:=by
 obtain⟨vs,rfl,_⟩:=okWide_struct Tryz.underlying30 ok
 obtain⟨m,hm⟩:=h
 obtain⟨n,hn,hr⟩:=zoh hm hb
 exact⟨n,hn,zoD hr⟩
theorem zxZ:Tryz.prog.cellsOf 83=13:=by kernel_rfl
variable {fuel:Nat} {cs:List Value} {y:DataW H×List MemPlace}
theorem ztT (h:DataW.trod enc Tryz.prog w 0 (fun _=>true) true fuel 83 cs=some y) (hb:Rows.uptoBulk y.1≤1048576): ∃c:Cal,zuX c∧RepFs w (fun b=>b<w.heap.size) (zuu c) cs:=by
 obtain⟨hl,hf⟩:=yC Tryz.underlying83 zxZ h hb
 match cs,hl with
 |[c0,c1,c2,c3,c4,c5,c6,c7,c8,c9,c10,c11,c12],_=>
  obtain⟨_,_,g0,_⟩:=hf 0 _ rfl
  obtain⟨_,_,g1,_⟩:=hf 1 _ rfl
  obtain⟨_,_,g2,b2⟩:=hf 2 _ rfl
  obtain⟨_,_,g3,_⟩:=hf 3 _ rfl
  obtain⟨_,_,g4,_⟩:=hf 4 _ rfl
  obtain⟨_,_,g5,b5⟩:=hf 5 _ rfl
  simp[Zb,JO,zc2,zg7]at g0 g1 g2 g3 g4 g5
  obtain⟨n0,r0,i0⟩:=qp Tryz.underlying3 g0
  obtain⟨n1,r1,i1⟩:=qp Tryz.underlying3 g1
  obtain⟨n2,r2,i2⟩:=zjn Tryz.underlying9 g2 b2
  obtain⟨n3,r3,i3⟩:=qp Tryz.underlying3 g3
  obtain⟨n4,r4,i4⟩:=qp Tryz.underlying2 g4
  obtain⟨p,hp,hr⟩:=zoh g5 b5
  simp only[List.cons.injEq,and_true]at r0 r1 r2 r3 r4
  subst r0 r1 r2 r3 r4
  refine⟨⟨n0,n1,n2,n3,n4,p⟩,⟨i1,i2,hp.ok⟩,rfl,fun j x u hx hu=>?_⟩
  match j with
  |0=>cases hx;cases hu;exact .s rfl
  |1=>cases hx;cases hu;exact .s rfl
  |2=>cases hx;cases hu;exact .s rfl
  |3=>cases hx;cases hu;exact .s rfl
  |4=>cases hx;cases hu;exact .s rfl
  |j+5=>exact hr.2 j x u hx hu
theorem zu5 (ok:Value.okWide Tryz.prog w .any base 83 v) (h:DataW.Trod enc Tryz.prog w 0 (fun _=>true) true 83 v d ps) (hb:Rows.uptoBulk d≤1048576): ∃p:Cal,zuX p∧qr w (.pure (fun b=>b<w.heap.size)) (gCl p) v:=by
 obtain⟨vs,rfl,_⟩:=okWide_struct Tryz.underlying83 ok
 obtain⟨m,hm⟩:=h
 obtain⟨n,hn,hr⟩:=ztT hm hb
 exact⟨n,hn,zoD hr⟩
abbrev zD5 (l:List Cal):V:=.c (.f (.l 13 (l.map zuu)))
theorem zCy (ok:Value.okWide Tryz.prog w .any base 85 v) (h:DataW.Trod enc Tryz.prog w 0 (fun _=>true) true 85 v d ps) (hb:Rows.uptoBulk d≤1048576): ∃l:List Cal,(l.length≤1048576∧∀c∈l,zuX c)∧qr w (.pure (fun b=>b<w.heap.size)) (zD5 l) v:=by
 obtain⟨a,n,k,rfl⟩:=okWide_slice Tryz.underlying85 ok
 obtain⟨m,hm⟩:=h
 obtain⟨l,u,r,k1,k2,k3⟩:=Q1 (encA:=zuu) (Good:=zuX) Tryz.underlying85 zxZ (by decide) (fun _=>rfl) (fun _ _ _ h hb=>ztT h hb) hm hb
 simp only[Value.cells,List.cons.injEq,and_true]at r
 subst r
 exact⟨l,⟨k2,k3⟩,.c (.f k1)⟩
end
theorem zAa {w:Wk} (h:zaK w): ∀p∈w.ps,p.its.length≤1048576:=fun p hp=>by have:=(zfw (h p hp).1).1;omega
theorem zuA (x:Wk×Int):eqC x x=true:=by simp[eqC,zjV,zh0,zhS]
theorem zqj {n:zQ} (c:Cal) (h:zaj n=true):zu Tryz.prog 40 [gCm (Ye n c),gCm (Ye n c)] (gB true):=by
 obtain⟨h1,h2,_⟩:=zsm c h
 have:=ztR (Ye n c) (Ye n c) (zbf h1).nok (zuy c (zbf h)) (zAa h2)
 rwa[zuA]at this
theorem zwb (n:zQ) (h:NOk n):zu Tryz.prog 16 [jv n,jv n] (gB true):=by
 have:=zd2 n n h
 rwa[zjV]at this
theorem zrr {P:Program} {f:FuncId} {fn:Func} {s:ChangeSpec} {c:OpenClaim} (h1:c.inPlace=P.inPlace f) (h2:c.unfollowed=P.unfollowed f) (h3:c.recurses=P.recurses f) (h4:c.named=P.varsNamed f)
  (rest:(c.wf (OpenSpec.ofChange s)&&laidOutB P&&mapsRowed P&&
 fn.params.all (P.readableRec ·)&&namedTie P c.named s.vars&&
 (c.stops==[])&&(P.stops==[])&&(c.knobs==[])&&(P.stopKnobs==[])&&
 (c.maps==(fn.params.toList++s.plain.varTypes P).any (P.mapsRec ·))&&(c.ifaces==(fn.params.toList++s.plain.varTypes P).any (P.ifacesRec ·))&&(c.mapsOut==P.mapsAmong fn.resultTypes.toList)&&
 (c.loops==(fn.params.toList++s.plain.varTypes P).any (P.loopsFrom ·))&&(c.wideKeys==(fn.params.toList++s.plain.varTypes P++fn.resultTypes.toList).any (P.wideKeysFrom ·))&&
 s.vars.all (P.varReadable ·)&&fn.resultTypes.all (fun t=>P.readableRec t&&decide (t<P.types.size))&&(c.ifacesOut==fn.resultTypes.toList.any (P.ifacesRec ·))&&(c.loopsOut==fn.resultTypes.toList.any (P.loopsFrom ·))&&(c.plainKeys==P.plainKeys)&&c.shortTexts.isNone&&P.stopsHeard&&P.mayEnter&&(c.lifted==P.liftsFinal)&&(P.make==some c.make)&&(c.kinds==(if c.domain.isEmpty then []else fn.params.toList.map fun t=>match P.underlying t with|some (.int k)=>some k| _=>none))&&(c.pinned==c.pinnedBy)&&
 (c.veiled==(fn.params.toList++s.plain.varTypes P++fn.resultTypes.toList).any (P.veiledRec ·))&&c.veiledFits P fn.params.toList (fn.params.toList++s.plain.varTypes P++fn.resultTypes.toList))=true):
  joinedFacts P f fn s c=true:=by
 have g1:(c.inPlace==P.inPlace f)=true:=by rw[h1];exact beq_self_eq_true _
 have g2:(c.unfollowed==P.unfollowed f)=true:=by rw[h2];exact beq_self_eq_true _
 have g3:(c.recurses==P.recurses f)=true:=by rw[h3];exact beq_self_eq_true _
 have g4:(c.named==P.varsNamed f)=true:=by rw[h4];exact beq_self_eq_true _
 unfold joinedFacts
 rw[g1,g2,g3,g4,Bool.and_true,Bool.and_true,Bool.and_true,Bool.and_true]
 exact rest
theorem own:ownKnob Tryz.prog.godebug=none:=by kernel_rfl
theorem zvj:laidOutB Tryz.prog=true:=by kernel_rfl
end
end Go.Proofs.YtbcbnfiedgnfpaaGreat
