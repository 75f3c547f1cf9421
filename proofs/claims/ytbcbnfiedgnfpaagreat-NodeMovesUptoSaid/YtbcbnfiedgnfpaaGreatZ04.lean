import Derived.Test.YtbcbnfiedgnfpaaGreatZ03
import Derived.Lib.LazyBuf
set_option linter.unusedSimpArgs false
set_option linter.unusedVariables false
set_option maxRecDepth 100000
set_option maxHeartbeats 2000000
namespace Go.Dl
open Go.Ed Go.RowKit
section
structure Mem (w:World) (E:qN) (B:Nat→Option (TypeId×List C)) (A:Nat→Option (TypeId×Nat×List (List F))):Prop where
 blk: ∀t e cs,B t=some (e,cs)→∃b vs,E.B t=some b∧Blk w b e vs∧Reps w E cs vs.toList
 inj: ∀t t' b,E.B t=some b→E.B t'=some b→t=t'
 bl: ∀t b,E.B t=some b→b<w.heap.size∧¬E.I b
 arr: ∀a e k rows,A a=some (e,k,rows)→∃v us,E.L a=some v∧w.ownsRow 0 e k v rows.length us∧RepFs w E.I rows.flatten us∧(∀r∈rows,r.length=k)
 al: ∀a v b,E.L a=some v→v.ownBlock=some b→b<w.heap.size∧¬E.I b∧∀t,E.B t≠some b
 ai: ∀a a' v v' b,E.L a=some v→E.L a'=some v'→v.ownBlock=some b→v'.ownBlock=some b→a=a'
 bn: ∀t,B t=none→E.B t=none
 an: ∀a,A a=none→E.L a=none
 il: ∀b,E.I b→b<w.heap.size
def foot (E:qN) (b:Nat):Prop:=(∃t,E.B t=some b)∨∃a v,E.L a=some v∧v.ownBlock=some b
abbrev BL:=List (Nat×TypeId×List C)
abbrev RL:=List (Nat×TypeId×Nat×List (List F))
def lkR (t:Nat):RL→Option (TypeId×Nat×List (List F))
 |[]=>none
 |(k,v)::r=>if t=k then some v else lkR t r
theorem zxw (t:Nat) (v:TypeId×Nat×List (List F)) (r:RL):lkR t ((t,v)::r)=some v:=if_pos rfl
theorem ztC {t k:Nat} (h:(t==k)=false) (v:TypeId×Nat×List (List F)) (r:RL):lkR t ((k,v)::r)=lkR t r:=if_neg (by simpa using h)
theorem zvM (t:Nat):lkR t []=none:=rfl
def zyI (P:Program) (f:FuncId) (args:List V) (bl:BL) (al:RL) (res:V) (bl':BL) (al':RL):Prop:=
 ∀(w:World) (us:Array Value) (E:qN),Mem w E (fun t=>YX t bl) (fun a=>lkR a al)→args.length=us.size→
 (∀(j:Nat) v u,args[j]? =some v→us[j]? =some u→qr w E v u)→
 Calls P f us w fun e w'=>∃u E',e= .returned u∧Mem w' E' (fun t=>YX t bl') (fun a=>lkR a al')∧qr w' E' res u∧yi (foot E) w w'∧
  (∀t b,E.B t=some b→E'.B t=some b)∧(∀b,E.I b→E'.I b)∧(∀b,E'.I b→E.I b∨w.heap.size≤b∨foot E b)∧∀b,foot E' b→w.heap.size≤b∨foot E b
def zA (P:Program) (f:FuncId) (args:List V) (bl:BL) (al:RL) (res:V) (bl':BL) (al':RL):Prop:=Yz P f∧zyI P f args bl al res bl' al'
def z7 (am:List (Nat×Nat)) (al:RL):AL:=al.map fun x=>(x.1,(am.lookup x.1).getD x.1,x.2)
theorem zgd (am:List (Nat×Nat)) (t:Nat): ∀(al:RL),Ji t (z7 am al)=lkR t al
 |[]=>rfl
 |(k,x)::r=>by
  have ih:=zgd am t r
  unfold Ji z7 at ih ⊢
  simp only[List.map_cons,YK,lkR]
  by_cases h:t=k
  ·simp[h]
  ·simp only[h,if_false];exact ih
def zp2 (bn:List Nat) (al:List (Nat×Nat)):List (Bool×List C)→List (Bool×List C)→Prop
 |[],[]=>True
 |(b,x)::xs,(c,y)::ys=>b=c∧QB al x y∧zp2 bn al xs ys
 | _,_=>False
def mvA (bn:List Nat) (al:List (Nat×Nat)):V→V→Prop
 | .tup xs,.tup ys=>zp2 bn al xs ys
 | .no,.no=>True
 | .clo f fi ca,.clo f' fi' ca'=>f=f'∧fi=fi'∧ca=ca'∧(∀x∈fi++ca,match x with| .loc t _=>t∈bn| _=>True)
 |x,y=>zp3 bn al x y
def z9 (T:Nat→Option Ty) (rs:List ResultVar) (res:V) (bl:BL) (al:RL) (am:List (Nat×Nat)) (S:St):Prop:=
 zS (z7 am al)=true∧(match zN T S rs with
  |some (p,v)=>p∧mvA (bl.map (·.1)) ((z7 am al).map fun x=>(x.1,x.2.1)) v res
  |none=>False)∧zlp ((z7 am al).map fun x=>(x.1,x.2.1)) S.blks bl∧zk7 S.arrs (z7 am al)
def zAf (T:Nat→Option Ty) (rs:List ResultVar) (res:V) (bl:BL) (al:RL):Exit→St→Prop
 | .normal,S=>∃am,z9 T rs res bl al am S
 | .ret,S=>∃am,z9 T rs res bl al am S
 | _,_=>False
section
variable {P:Program} {X:Fr} {w0 w w':World} {N:Nat} {S:St} {E E':qN} {a:Act} {T:Nat→Option Ty}
theorem zo1 {bn:List Nat} {al:List (Nat×Nat)} (hI:E'.I=E.I) (hL: ∀b a v,(b,a)∈al→E.L a=some v→E'.L b=some v): ∀ {xs ys:List (Bool×List C)},zp2 bn al xs ys→xs.length=ys.length∧∀(j:Nat) y u,ys[j]? =some y→(∀x,xs[j]? =some x→RepP w E x u)→RepP w E' y u
 |[],[],_=>⟨rfl,fun j y u h=>by simp at h⟩
 |[],_::_,h=>by simp[zp2]at h
 | _::_,[],h=>by simp[zp2]at h
 | (b,x)::xs,(c,y)::ys,h=>by
  obtain⟨rfl,h1,h2⟩:=h
  have ih:=zo1 hI hL h2
  refine⟨by simp[ih.1],fun j z u hz hx=>?_⟩
  match j with
  |j+1=>exact ih.2 j z u (by simpa using hz) fun x h=>hx x (by simpa using h)
  | 0=>
   simp at hz
   subst hz
   have h0:=hx (b,x) rfl
   cases b
   ·obtain⟨z,e,hz⟩:=h0
    subst e
    have:=QR (w:=w) (us:=[u]) hI hL h1 ⟨rfl,fun j q v hq hv=>by
     match j with
     |0=>simp at hq hv;subst hq;subst hv;exact hz
     |j+1=>simp at hq⟩
    match y,this with
    |[],h=>have:=h.1;simp at this
    |[y],h=>exact⟨y,rfl,h.2 0 y u rfl rfl⟩
    | _::_::_,h=>have:=h.1;simp at this
   ·obtain⟨us,e,hz⟩:=h0
    exact⟨us,e,QR hI hL h1 hz⟩
theorem zus {bn:List Nat} {al:List (Nat×Nat)} (hI:E'.I=E.I) (hB: ∀t b,t∈bn→E.B t=some b→E'.B t=some b) (hL: ∀b a v,(b,a)∈al→E.L a=some v→E'.L b=some v) {x y:V} {u:Value} (h:mvA bn al x y) (hx:qr w E x u):qr w E' y u:=by
 unfold mvA at h
 split at h
 ·cases hx with
  |tup hl hx=>
   obtain⟨h1,h2⟩:=zo1 (w:=w) (E:=E) hI hL h
   exact .tup (by rw[←h1,hl]) fun j y u hy hu=>h2 j y u hy fun x hxx=>hx j x u hxx hu
 ·cases hx;exact .no
 ·obtain⟨rfl,rfl,rfl,hb⟩:=h
  cases hx with
  | clo h1 h2=>
   have key: ∀ {xs:List W} {us:List Value},(∀x∈xs,match x with| .loc t _=>t∈bn| _=>True)→RepWs w E xs us→RepWs w E' xs us:=fun {xs us} hb h=>⟨h.1,fun j x u hx hu=>by
    have hm:=hb x (List.mem_of_getElem? hx)
    have h0:=h.2 j x u hx hu
    cases h0 with
    |f h=>exact .f (hI▸h)
    |agg h=>exact .agg (hI▸h)
    |loc h=>exact .loc (hB _ _ hm h)
    |rd us h1 h2 h3=>exact .rd us (hI▸h1) h2 (hI▸h3)⟩
   exact .clo (key (fun x hx=>hb x (by simp[hx])) h1) (key (fun x hx=>hb x (by simp[hx])) h2)
 ·exact zou hI hB hL h hx
theorem zC (hT: ∀t y,T t=some y→q9 P t y) {f:FuncId} {fn:Func} {c:Code} {args:List V} {bl:BL} {al:RL} {res:V} {bl':BL} {al':RL} (rs:List ResultVar) (hf:P.funcs[f]? =some fn) (hb:fn.body=some c) (hn:(fn.name== "runtime.NumGoroutine")=false) (hargs:args.length≤fn.ntmps) (hrs:fn.results.toList=rs)
  (hnm:((bl.map (·.1)).all fun t=>(YX t bl').isSome)=true)
  (h: ∀XX I0 G w0,DW P ⟨XX,I0,bl.map (·.1),G,none,false⟩ w0 fn.ntmps c (zAf T rs res bl' al') ⟨fun t=>lkA t args,fun t=>YX t bl,fun a=>lkR a al⟩):zA P f args bl al res bl' al':=by
 subst hrs
 refine⟨⟨fn,hf,by simp[hb],hn⟩,fun w us E hm hl hv=>?_⟩
 have hlB: ∀t,YX t bl=bl.lookup t:=fun t=>zdO t bl
 have hs:qv ⟨foot E,E.I,bl.map (·.1),fun t=>(E.B t).getD 0,none,false⟩ w fn.ntmps ⟨fun t=>lkA t args,fun t=>YX t bl,fun a=>lkR a al⟩ E {tmps:=us++Array.replicate (fn.ntmps - us.size) undef,defers:=[]} w:=by
  refine⟨yi.refl _ _,Frk.none rfl,by simp;omega,fun t=>?_,fun t e cs h=>?_,hm.inj,hm.bl,fun a e k rows h=>?_,hm.al,hm.ai,hm.bn,hm.an,hm.il,fun _ h=>h,fun _ h=>.inl h,fun t ht=>?_⟩
  ·simp only[lkA]
   rcases Nat.lt_or_ge t args.length with ht|ht
   ·rw[List.getD_eq_getElem?_getD,List.getElem?_eq_getElem ht,Array.getD_eq_getD_getElem?,Array.getElem?_append_left (by omega),Array.getElem?_eq_getElem (by omega)]
    exact hv t _ _ (List.getElem?_eq_getElem ht) (Array.getElem?_eq_getElem (by omega))
   ·rw[List.getD_eq_getElem?_getD,List.getElem?_eq_none ht]
    exact .un
  ·obtain⟨b,vs,h1,h2,h3⟩:=hm.blk t e cs h
   exact⟨b,vs,h1,h2,h3,.inr (.inl ⟨t,h1⟩)⟩
  ·obtain⟨v,us,h1,h2,h3,h4⟩:=hm.arr a e k rows h
   exact⟨v,us,h1,h2,h3,h4,fun b hb=>.inr (.inr ⟨a,v,h1,hb⟩)⟩
  ·have ht:t∈bl.map (·.1):=ht
   obtain⟨⟨k,e,cs⟩,hx,rfl⟩:=List.mem_map.1 ht
   cases hq:YX k bl with
   |none=>
    rw[hlB,List.lookup_eq_none_iff]at hq
    have:=hq _ hx
    simp at this
   |some y=>
    obtain⟨b,vs,h1,_⟩:=hm.blk k y.1 y.2 hq
    simp[h1]
 refine zcT hf hb rfl (h _ _ _ w E _ w hs) (fun e S' E' a' w' hq hs' _=>?_) fun e S' hq=>by cases e<;>first|exact .inl rfl|exact .inr rfl|exact hq.elim
 have key:(∃am,z9 T fn.results.toList res bl' al' am S')→∃v,(results fn a'.tmps).run P w'= .ok v w'∧∃u E'',Ending.returned v= .returned u∧Mem w' E'' (fun t=>YX t bl') (fun a=>lkR a al')∧qr w' E'' res u∧yi (foot E) w w'∧
   (∀t b,E.B t=some b→E''.B t=some b)∧(∀b,E.I b→E''.I b)∧(∀b,E''.I b→E.I b∨w.heap.size≤b∨foot E b)∧∀b,foot E'' b→w.heap.size≤b∨foot E b:=fun⟨am,h0,hr,h2,h3⟩=>by
  split at hr
  ·rename_i p v hrv
   obtain⟨u,q1,q2⟩:=zpN hT hs' hrv hr.1
   have hlk: ∀t,(bl'.lookup t).isSome=(YX t bl').isSome:=fun t=>by rw[zdO]
   have hs'':=zjp (sl:=[]) h0 (by trivial) h2 h3 (by simp only[hlk];exact hnm) hs'
   have harr:(St.ofA [] bl' (z7 am al')).arrs=fun a=>lkR a al':=funext fun t=>zgd am t al'
   refine⟨u,q2,u,_,rfl,⟨fun t e cs ht=>?_,hs''.inj,hs''.bl,fun c e k rows hc=>?_,hs''.al,hs''.ai,hs''.bn,fun c hc=>hs''.an c (by rw[harr];exact hc),hs''.il⟩,zus (E:=E') (E':=E'.cut bl' (z7 am al')) rfl (fun t b hm hb=>zyk t b hm hb) (fun b a v hm hb=>zx8 h0 b a v hm hb) hr.2 q1,hs''.chg,fun t b ht=>?_,fun b hb=>hs''.i0 b hb,fun b hb=>hs''.i1 b hb,fun b hb=>?_⟩
   ·obtain⟨b,vs,r1,r2,r3,_⟩:=hs''.blk t e cs ht
    exact⟨b,vs,r1,r2,r3⟩
   ·obtain⟨v,us,r1,r2,r3,r4,_⟩:=hs''.arr c e k rows (by rw[harr];exact hc)
    exact⟨v,us,r1,r2,r3,r4⟩
   ·have htm:t∈bl.map (·.1):=by
     cases hq:YX t bl with
     |none=>rw[hm.bn t hq]at ht;cases ht
     |some y=>exact List.mem_map.2 ⟨_,qK (by rw[←hlB];exact hq),rfl⟩
    have:=hs''.kp t htm
    rw[this]
    show some ((E.B t).getD 0)=some b
    rw[ht];rfl
   ·rcases hb with⟨t,ht⟩|⟨c,v,hc,hv⟩
    ·cases hq:YX t bl' with
     |none=>rw[hs''.bn t hq]at ht;cases ht
     |some y=>
      obtain⟨b',vs,r1,r2,r3,r4⟩:=hs''.blk t y.1 y.2 hq
      rw[ht]at r1;cases r1
      exact r4
    ·cases hq:(St.ofA [] bl' (z7 am al')).arrs c with
     |none=>rw[hs''.an c hq]at hc;cases hc
     |some y=>
      obtain⟨v',us,r1,r2,r3,r4,r5⟩:=hs''.arr c y.1 y.2.1 y.2.2 hq
      rw[hc]at r1;cases r1
      exact r5 b hv
  ·exact hr.elim
 cases e with
 |normal=>exact⟨.inl rfl,key hq⟩
 |ret=>exact⟨.inr rfl,key hq⟩
 | _=>exact hq.elim
end
def kC (ks:List Nat):C→C
 | .o b=>if ks.contains b then .un else .o b
 |x=>x
def kP (ks:List Nat):Bool×List C→Bool×List C
 |(b,cs)=>(b,cs.map (kC ks))
def kV (ks:List Nat):V→V
 | .c x=>.c (kC ks x)
 | .agg xs=>.agg (xs.map (kC ks))
 | .tup xs=>.tup (xs.map (kP ks))
 | .el a k i off=>if ks.contains a then .un else .el a k i off
 |x=>x
def kB (ks:List Nat):Option (TypeId×List C)→Option (TypeId×List C)
 |some (e,cs)=>some (e,cs.map (kC ks))
 |none=>none
def kA (ks:List Nat) (f:Nat→Option (TypeId×Nat×List (List F))) (c:Nat):Option (TypeId×Nat×List (List F)):=if ks.contains c then none else f c
def upL {α:Type} (f:Nat→Option α):List (Nat×α)→Nat→Option α
 |[]=>f
 |(t,x)::r=>ja (upL f r) t (some x)
section kill
variable {ks:List Nat} {w w':World} {E E':qN}
theorem zs1 (hm: ∀b,E.I b→w'.heap[b]? =w.heap[b]?) (hI: ∀b,E.I b→E'.I b) (hL: ∀a v,ks.contains a=false→E.L a=some v→E'.L a=some v) {x:C} {u:Value} (h:Qm w E x u):Qm w' E' (kC ks x) u:=by
 cases h with
 |f h=>exact .f (h.mono hm hI)
 | @o a _ h h1=>
  have e:kC ks (.o a)=if ks.contains a then .un else .o a:=rfl
  rw[e]
  cases hk:ks.contains a with
  |true=>rw[if_pos rfl];exact .un h1
  |false=>rw[if_neg (by simp)];exact .o (hL _ _ hk h) h1
 |un h=>exact .un h
theorem zm5 (hm: ∀b,E.I b→w'.heap[b]? =w.heap[b]?) (hI: ∀b,E.I b→E'.I b) (hL: ∀a v,ks.contains a=false→E.L a=some v→E'.L a=some v) {xs:List C} {us:List Value} (h:Reps w E xs us):Reps w' E' (xs.map (kC ks)) us:=
 ⟨by simpa using h.1,fun j x u hx hu=>by
  rw[List.getElem?_map]at hx
  cases hj:xs[j]? with
  |none=>simp[hj]at hx
  |some y=>simp[hj]at hx;subst hx;exact zs1 hm hI hL (h.2 j y u hj hu)⟩
theorem zBf (hm: ∀b,E.I b→w'.heap[b]? =w.heap[b]?) (hI: ∀b,E.I b→E'.I b) (hB: ∀t b,E.B t=some b→E'.B t=some b) (hL: ∀a v,ks.contains a=false→E.L a=some v→E'.L a=some v) {x:V} {u:Value} (h:qr w E x u):qr w' E' (kV ks x) u:=by
 cases h with
 |clo h1 h2=>exact .clo (h1.mono hm hI hB) (h2.mono hm hI hB)
 | @el a k i off _ _ _ h=>
  have e:kV ks (.el a k i off)=if ks.contains a then .un else .el a k i off:=rfl
  rw[e]
  cases hk:ks.contains a with
  |true=>rw[if_pos rfl];exact .un
  |false=>rw[if_neg (by simp)];exact .el (hL _ _ hk h)
 |un=>exact .un
 |no=>exact .no
 |c h=>exact .c (zs1 hm hI hL h)
 |agg h=>exact .agg (zm5 hm hI hL h)
 | tup hl h=>
  refine .tup (by simpa using hl) fun j x u hx hu=>?_
  rw[List.getElem?_map]at hx
  rename_i xs us
  cases hj:xs[j]? with
  |none=>simp[hj]at hx
  | some y=>
   simp[hj]at hx
   subst hx
   have:=h j y u hj hu
   obtain⟨b,cs⟩:=y
   cases b
   ·obtain⟨z,e,hz⟩:=this
    subst e
    exact⟨_,rfl,zs1 hm hI hL hz⟩
   ·obtain⟨z,e,hz⟩:=this
    exact⟨z,e,zm5 hm hI hL hz⟩
 |loc h=>exact .loc (hB _ _ h)
 |rd us h1 h2 h3=>
  refine .rd us (hI _ h1) (fun j x hj=>?_) fun j x hj=>(h3 j x hj).mono hm hI
  rw[World.cell?_of_block (hm _ (by rw[qA];exact h1))]
  exact h2 j x hj
end kill
def W.toV:W→V
 | .f x=>.c (.f x)
 | .agg xs=>.agg (xs.map .f)
 | .loc t o=>.loc t o
 | .rd xs=>.rd xs
def yH (l:List (Nat×Nat)) (t:Nat):Nat:=(l.lookup t).getD 0
def rnC (am:List (Nat×Nat)):C→C
 | .o a=>.o (yH am a)
 |x=>x
def rnP (am:List (Nat×Nat)):Bool×List C→Bool×List C
 |(b,cs)=>(b,cs.map (rnC am))
def rnW (bm:List (Nat×Nat)):W→W
 | .loc t o=>.loc (yH bm t) o
 |x=>x
def rnV (bm am:List (Nat×Nat)):V→V
 | .c x=>.c (rnC am x)
 | .agg xs=>.agg (xs.map (rnC am))
 | .tup xs=>.tup (xs.map (rnP am))
 | .loc t o=>.loc (yH bm t) o
 | .el a k i off=>.el (yH am a) k i off
 | .clo f fi ca=>.clo f (fi.map (rnW bm)) (ca.map (rnW bm))
 |x=>x
def mw (bm:List (Nat×Nat)):W→W→Prop
 | .loc t o,.loc t' o'=>(t',t)∈bm∧o=o'
 |x,y=>x=y∧match x with
  | .loc _ _=>False
  | _=>True
def mws (bm:List (Nat×Nat)):List W→List W→Prop
 |[],[]=>True
 |x::xs,y::ys=>mw bm x y∧mws bm xs ys
 | _,_=>False
def mv (bm am:List (Nat×Nat)):V→V→Prop
 | _,.un=>True
 | .loc t o,.loc t' o'=>(t',t)∈bm∧o=o'
 | .c x,.c y=>QB am [x] [y]
 | .agg xs,.agg ys=>QB am xs ys
 | .clo f fi ca,.clo f' fi' ca'=>f=f'∧mws bm fi fi'∧mws bm ca ca'
 |x,y=>vle x y
def mvs (bm am:List (Nat×Nat)):List V→List V→Prop
 |[],[]=>True
 |x::xs,y::ys=>mv bm am x y∧mvs bm am xs ys
 | _,_=>False
def ztU (bm am:List (Nat×Nat)) (f:Nat→Option (TypeId×List C)):BL→Prop
 |[]=>True
 | (n,e,cs)::r=>(match bm.lookup n with
  |some t=>(match f t with
   |some (e',cs')=>e'=e∧QB am cs' cs
   |none=>False)
  |none=>False)∧ztU bm am f r
def zsV (am:List (Nat×Nat)) (f:Nat→Option (TypeId×Nat×List (List F))):RL→Prop
 |[]=>True
 |(n,x)::r=>(match am.lookup n with
  |some t=>f t=some x
  |none=>False)∧zsV am f r
def zbs {α:Type} (old:List Nat) (f:Nat→Option α):List (Nat×Nat)→Prop
 |[]=>True
 |(n,t)::r=>(n∈old∨f t=none)∧zbs old f r
def zcW {β:Type} (m:List (Nat×Nat)) (l:List (Nat×β)):Bool:=l.all fun x=>(m.lookup x.1).isSome
def zaH:List (Nat×Nat)→Bool
 |[]=>true
 |(b,a)::r=>(r.all fun x=>x.1 !=b&&x.2 !=a)&&zaH r
def zeR (S:St) (c:Call):Option (FuncId×List V):=match c.callee with
 | .value x=>match ev S x with
  | .c (.f (.s (.func (.func f) fi ca)))=>if fi.size=0∧ca.size=0 then some (f,c.args.toList.map (ev S))else none
  | .clo f fi ca=>some (f,fi.map W.toV++c.args.toList.map (ev S)++ca.map W.toV)
  | .c (.f (.fc f cs))=>some (f,c.args.toList.map (ev S)++cs.map .rd)
  | _=>none
 | _=>none
def znT (bm am:List (Nat×Nat)) (l:BL):BL:=l.map fun x=>(yH bm x.1,x.2.1,x.2.2.map (rnC am))
def znR (am:List (Nat×Nat)) (l:RL):RL:=l.map fun x=>(yH am x.1,x.2)
section
theorem ju: ∀ {l:List (Nat×Nat)},zaH l=true→∀ {n t},(n,t)∈l→l.lookup n=some t
 | (m,s)::r,h,n,t,hm=>by
  simp only[zaH,Bool.and_eq_true,List.all_eq_true,bne_iff_ne,ne_eq]at h
  rw[List.lookup_cons]
  rcases List.mem_cons.1 hm with e|e
  ·cases e;simp
  ·have h1:=(h.1 _ e).1
   have:(n==m)=false:=by simpa using h1
   rw[this]
   exact ju h.2 e
theorem Y1: ∀ {l:List (Nat×Nat)},zaH l=true→∀ {n n' t},(n,t)∈l→(n',t)∈l→n=n'
 |(m,s)::r,h,n,n',t,h1,h2=>by
  simp only[zaH,Bool.and_eq_true,List.all_eq_true,bne_iff_ne,ne_eq]at h
  rcases List.mem_cons.1 h1 with e1|e1<;>rcases List.mem_cons.1 h2 with e2|e2
  ·cases e1;cases e2;rfl
  ·cases e1;exact absurd rfl (h.1 _ e2).2
  ·cases e2;exact absurd rfl (h.1 _ e1).2
  ·exact Y1 h.2 e1 e2
def inv (l:List (Nat×Nat)) (t:Nat):Option Nat:=(l.find? fun p=>p.2==t).map (·.1)
theorem Jb {l:List (Nat×Nat)} {t n:Nat} (h:inv l t=some n):(n,t)∈l:=by
 unfold inv at h
 cases hq:l.find? fun p=>p.2==t with
 |none=>rw[hq]at h;cases h
 |some p=>
  rw[hq]at h
  cases h
  have h1:=List.mem_of_find?_eq_some hq
  have h2:=List.find?_some hq
  obtain⟨n,s⟩:=p
  simp only[beq_iff_eq]at h2
  subst h2
  exact h1
theorem zgx {l:List (Nat×Nat)} {t n:Nat} (h:inv l t=none):(n,t)∉l:=fun hm=>by
 unfold inv at h
 rw[Option.map_eq_none_iff,List.find?_eq_none]at h
 exact h _ hm (by simp)
theorem zpU {l:List (Nat×Nat)} (h1:zaH l=true) {n t:Nat} (h:(n,t)∈l):inv l t=some n:=by
 cases hq:inv l t with
 |none=>exact absurd h (zgx hq)
 |some m=>rw[Y1 h1 (Jb hq) h]
theorem zbz {α:Type} {old:List Nat} {f:Nat→Option α}: ∀ {l:List (Nat×Nat)},zbs old f l→∀ {n t},(n,t)∈l→n∈old∨f t=none
 |(m,s)::r,h,n,t,hm=>by
  rcases List.mem_cons.1 hm with e|e
  ·cases e;exact h.1
  ·exact zbz h.2 e
theorem zu3 {l:List (Nat×Nat)} {n t:Nat} (h:l.lookup n=some t):yH l n=t:=by simp[yH,h]
theorem YS {l:List (Nat×Nat)} {n:Nat} (h:(l.lookup n).isSome=true):l.lookup n=some (yH l n):=by
 obtain⟨t,ht⟩:=Option.isSome_iff_exists.1 h
 rw[zu3 ht,ht]
theorem znX {α β:Type} {m:List (Nat×Nat)} (hm:zaH m=true) {g:α→β} {f:Nat→Option β} (t:Nat): ∀(l:List (Nat×α)),zcW m l=true→
  (∃n x,l.lookup n=some x∧m.lookup n=some t∧upL f (l.map fun x=>(yH m x.1,g x.2)) t=some (g x))∨
  ((∀n,(n,t)∈m→l.lookup n=none)∧upL f (l.map fun x=>(yH m x.1,g x.2)) t=f t)
 |[],_=>.inr ⟨fun _ _=>rfl,rfl⟩
 | (k,x)::r,hc=>by
  simp only[zcW,List.all_cons,Bool.and_eq_true]at hc
  have hk:=YS hc.1
  rw[List.map_cons]
  by_cases ht:t=yH m k
  ·subst ht
   exact .inl ⟨k,x,by simp,hk,by simp[upL,ja]⟩
  ·have hu:upL f ((yH m k,g x)::r.map fun x=>(yH m x.1,g x.2)) t=upL f (r.map fun x=>(yH m x.1,g x.2)) t:=by simp[upL,ja,ht]
   rw[hu]
   rcases znX hm (g:=g) (f:=f) t r hc.2 with⟨n,y,h1,h2,h3⟩|⟨h1,h2⟩
   ·refine .inl ⟨n,y,?_,h2,h3⟩
    have:(n==k)=false:=by
     have:n≠k:=fun e=>by subst e;rw[hk]at h2;cases h2;exact ht rfl
     simpa using this
    rw[List.lookup_cons,this];exact h1
   ·refine .inr ⟨fun n hn=>?_,h2⟩
    have:(n==k)=false:=by
     have:n≠k:=fun e=>by subst e;have:=ju hm hn;rw[hk]at this;cases this;exact ht rfl
     simpa using this
    rw[List.lookup_cons,this];exact h1 n hn
theorem zc5 (t:Nat): ∀(l:RL),lkR t l=l.lookup t
 |[]=>rfl
 | (k,v)::r=>by
  rw[lkR,List.lookup_cons,zc5 t r]
  by_cases h:t=k
  ·subst h;simp
  ·have:(t==k)=false:=by simpa using h
   simp[h,this]
theorem zly {bm am:List (Nat×Nat)} {f:Nat→Option (TypeId×List C)}: ∀ {l:BL},ztU bm am f l→∀ {n e cs},(n,e,cs)∈l→∃t cs',bm.lookup n=some t∧f t=some (e,cs')∧QB am cs' cs
 | (k,e0,cs0)::r,h,n,e,cs,hm=>by
  rcases List.mem_cons.1 hm with he|he
  ·cases he
   have:=h.1
   split at this
   ·rename_i t ht
    split at this
    ·rename_i e' cs' hf
     obtain⟨rfl,h2⟩:=this
     exact⟨t,cs',ht,hf,h2⟩
    ·exact this.elim
   ·exact this.elim
  ·exact zly h.2 he
theorem zlv {am:List (Nat×Nat)} {f:Nat→Option (TypeId×Nat×List (List F))}: ∀ {l:RL},zsV am f l→∀ {n x},(n,x)∈l→∃t,am.lookup n=some t∧f t=some x
 | (k,x0)::r,h,n,x,hm=>by
  rcases List.mem_cons.1 hm with he|he
  ·cases he
   have:=h.1
   split at this
   ·rename_i t ht
    exact⟨t,ht,this⟩
   ·exact this.elim
  ·exact zlv h.2 he
variable {P:Program} {X:Fr} {w0 w w':World} {N:Nat} {S:St} {E E':qN} {a:Act} {T:Nat→Option Ty}
theorem zav.toV {x:W} {u:Value} (h:zav w E x u):qr w E x.toV u:=by
 cases h with
 |f h=>exact .c (.f h)
 |agg h=>exact .agg (zeX h)
 |loc h=>exact .loc h
 |rd us h1 h2 h3=>exact .rd us h1 h2 h3
theorem zAF {bm:List (Nat×Nat)} (hI:E'.I=E.I) (hB: ∀n t b,(n,t)∈bm→E.B t=some b→E'.B n=some b) {x y:W} {u:Value} (h:mw bm x y) (hx:zav w E x u):zav w E' y u:=by
 unfold mw at h
 split at h
 ·obtain⟨h1,rfl⟩:=h
  cases hx with|loc hx=>exact .loc (hB _ _ _ h1 hx)
 ·obtain⟨rfl,hloc⟩:=h
  cases hx with
  |f h=>exact .f (hI▸h)
  |agg h=>exact .agg (hI▸h)
  |loc h=>exact hloc.elim
  |rd us h1 h2 h3=>exact .rd us (hI▸h1) h2 (hI▸h3)
theorem znW {bm:List (Nat×Nat)} (hI:E'.I=E.I) (hB: ∀n t b,(n,t)∈bm→E.B t=some b→E'.B n=some b): ∀ {xs ys:List W} {us:List Value},mws bm xs ys→RepWs w E xs us→RepWs w E' ys us
 |[],[],us,_,h=>⟨h.1,fun j x u hx=>by simp at hx⟩
 |[],_::_,_,h,_=>h.elim
 | _::_,[],_,h,_=>h.elim
 |x::xs,y::ys,[],h,hr=>by have:=hr.1;simp at this
 |x::xs,y::ys,u::us,h,hr=>by
  have ih:=znW hI hB h.2 (⟨by simpa using hr.1,fun j=>hr.2 (j+1)⟩:RepWs w E xs us)
  refine⟨by simp[ih.1],fun j z v hz hv=>?_⟩
  match j with
  |0=>cases hz;cases hv;exact zAF hI hB h.1 (hr.2 0 _ _ rfl rfl)
  |j+1=>exact ih.2 j z v (by simpa using hz) (by simpa using hv)
theorem zBA {bm am:List (Nat×Nat)} (hI:E'.I=E.I) (hB: ∀n t b,(n,t)∈bm→E.B t=some b→E'.B n=some b) (hL: ∀n a v,(n,a)∈am→E.L a=some v→E'.L n=some v) {x y:V} {u:Value} (h:mv bm am x y) (hx:qr w E x u):qr w E' y u:=by
 unfold mv at h
 split at h
 ·exact .un
 ·obtain⟨h1,rfl⟩:=h
  cases hx with|loc hx=>exact .loc (hB _ _ _ h1 hx)
 ·cases hx with
  | c hx=>
   rename_i x y
   have:=QR (w:=w) (us:=[u]) hI hL h ⟨rfl,fun j q v hq hv=>by
    match j with
    |0=>simp at hq hv;subst hq;subst hv;exact hx
    |j+1=>simp at hq⟩
   exact .c (this.2 0 y u rfl rfl)
 ·cases hx with|agg hx=>exact .agg (QR hI hL h hx)
 ·obtain⟨rfl,h1,h2⟩:=h
  cases hx with|clo q1 q2=>exact .clo (znW hI hB h1 q1) (znW hI hB h2 q2)
 ·exact znd hI h hx
theorem zts {bm am:List (Nat×Nat)} (hI:E'.I=E.I) (hB: ∀n t b,(n,t)∈bm→E.B t=some b→E'.B n=some b) (hL: ∀n a v,(n,a)∈am→E.L a=some v→E'.L n=some v): ∀ {xs ys:List V},mvs bm am xs ys→xs.length=ys.length∧∀(j:Nat) y u,ys[j]? =some y→(∀x,xs[j]? =some x→qr w E x u)→qr w E' y u
 |[],[],_=>⟨rfl,fun j y u h=>by simp at h⟩
 |[],_::_,h=>h.elim
 | _::_,[],h=>h.elim
 |x::xs,y::ys,h=>by
  have ih:=zts hI hB hL h.2
  refine⟨by simp[ih.1],fun j z u hz hx=>?_⟩
  match j with
  |0=>simp at hz;subst hz;exact zBA hI hB hL h.1 (hx x rfl)
  |j+1=>exact ih.2 j z u (by simpa using hz) fun x h=>hx x (by simpa using h)
theorem zcF {am:List (Nat×Nat)} (hI:E'.I=E.I) (hL: ∀n v,E.L n=some v→E'.L (yH am n)=some v) {xs:List C} {us:List Value} (h:Reps w E xs us):Reps w E' (xs.map (rnC am)) us:=
 ⟨by simpa using h.1,fun j x u hx hu=>by
  rw[List.getElem?_map]at hx
  cases hj:xs[j]? with
  |none=>simp[hj]at hx
  |some y=>
   simp[hj]at hx
   subst hx
   have h0:=h.2 j y u hj hu
   cases h0 with
   |f h=>exact .f (hI▸h)
   |o h h1=>exact .o (hL _ _ h) h1
   |un h=>exact .un h⟩
theorem zy2 {bm am:List (Nat×Nat)} (hI:E'.I=E.I) (hB: ∀n b,E.B n=some b→E'.B (yH bm n)=some b) (hL: ∀n v,E.L n=some v→E'.L (yH am n)=some v) {x:V} {u:Value} (h:qr w E x u):qr w E' (rnV bm am x) u:=by
 cases h with
 |un=>exact .un
 |no=>exact .no
 | @c x _ h=>
  have:=(zcF (w:=w) (xs:=[x]) (us:=[u]) hI hL ⟨rfl,fun j q v hq hv=>by
   match j with
   |0=>simp at hq hv;subst hq;subst hv;exact h
   |j+1=>simp at hq⟩).2 0 (rnC am x) u rfl rfl
  exact .c this
 |agg h=>exact .agg (zcF hI hL h)
 | tup hl h=>
  refine .tup (by simpa using hl) fun j x u hx hu=>?_
  rw[List.getElem?_map]at hx
  rename_i xs us
  cases hj:xs[j]? with
  |none=>simp[hj]at hx
  | some y=>
   simp[hj]at hx
   subst hx
   have:=h j y u hj hu
   obtain⟨b,cs⟩:=y
   cases b
   ·obtain⟨z,e,hz⟩:=this
    subst e
    exact⟨_,rfl,(zcF (w:=w) (xs:=[z]) (us:=[u]) hI hL ⟨rfl,fun j q v hq hv=>by
     match j with
     |0=>simp at hq hv;subst hq;subst hv;exact hz
     |j+1=>simp at hq⟩).2 0 _ u rfl rfl⟩
   ·obtain⟨z,e,hz⟩:=this
    exact⟨z,e,zcF hI hL hz⟩
 |loc h=>exact .loc (hB _ _ h)
 |rd us h1 h2 h3=>exact .rd us (hI▸h1) h2 (hI▸h3)
 |el h=>exact .el (hL _ _ h)
 | @clo f fi ca us vs h1 h2=>
  have key: ∀ {xs:List W} {us:List Value},RepWs w E xs us→RepWs w E' (xs.map (rnW bm)) us:=fun {xs us} h=>⟨by simpa using h.1,fun j x u hx hu=>by
   rw[List.getElem?_map]at hx
   cases hj:xs[j]? with
   |none=>simp[hj]at hx
   |some y=>
    simp[hj]at hx
    subst hx
    have h0:=h.2 j y u hj hu
    cases h0 with
    |f h=>exact .f (hI▸h)
    |agg h=>exact .agg (hI▸h)
    |loc h=>exact .loc (hB _ _ h)
    |rd us h1 h2 h3=>exact .rd us (hI▸h1) h2 (hI▸h3)⟩
  exact .clo (key h1) (key h2)
theorem qv.callM {bm am:List (Nat×Nat)} {bl:BL} {al:RL} {bl':BL} {al':RL} (hs:qv X w0 N S E a w) (h1:zaH bm=true) (h2:zaH am=true) (hbl:ztU bm am S.blks bl) (hal:zsV am S.arrs al)
  (hfB:zbs (bl.map (·.1)) S.blks bm) (hfA:zbs (al.map (·.1)) S.arrs am) (hcB:zcW bm bl'=true) (hcA:zcW am al'=true)
  (Ec:qN) (hEc:Ec=⟨fun n=>(bm.lookup n).bind E.B,fun n=>(am.lookup n).bind E.L,E.I⟩):
  Mem w Ec (fun t=>YX t bl) (fun c=>lkR c al)∧∀(E1:qN) (w':World),Mem w' E1 (fun t=>YX t bl') (fun c=>lkR c al')→yi (foot Ec) w w'→(∀t b,Ec.B t=some b→E1.B t=some b)→(∀b,Ec.I b→E1.I b)→(∀b,E1.I b→Ec.I b∨w.heap.size≤b∨foot Ec b)→(∀b,foot E1 b→w.heap.size≤b∨foot Ec b)→
   ∃E2:qN,E2.I=E1.I∧(∀n b,E1.B n=some b→E2.B (yH bm n)=some b)∧(∀n v,E1.L n=some v→E2.L (yH am n)=some v)∧
   qv X w0 N ⟨fun t=>kV (am.map (·.2)) (S.slots t),upL (fun t=>kB (am.map (·.2)) (S.blks t)) (znT bm am bl'),upL (kA (am.map (·.2)) S.arrs) (znR am al')⟩ E2 a w':=by
 have hlB: ∀(l:BL) t,YX t l=l.lookup t:=fun l t=>zdO t l
 have eB: ∀n b,Ec.B n=some b→∃t,(n,t)∈bm∧E.B t=some b:=fun n b h=>by
  rw[hEc]at h
  have h:(bm.lookup n).bind E.B=some b:=h
  cases hq:bm.lookup n with
  |none=>rw[hq]at h;cases h
  |some t=>rw[hq]at h;exact⟨t,qK hq,h⟩
 have eL: ∀n v,Ec.L n=some v→∃t,(n,t)∈am∧E.L t=some v:=fun n b h=>by
  rw[hEc]at h
  have h:(am.lookup n).bind E.L=some b:=h
  cases hq:am.lookup n with
  |none=>rw[hq]at h;cases h
  |some t=>rw[hq]at h;exact⟨t,qK hq,h⟩
 have cB: ∀n t b,(n,t)∈bm→E.B t=some b→Ec.B n=some b:=fun n t b h hb=>by
  rw[hEc]
  show(bm.lookup n).bind E.B=some b
  rw[ju h1 h];exact hb
 have cL: ∀n t v,(n,t)∈am→E.L t=some v→Ec.L n=some v:=fun n t v h hb=>by
  rw[hEc]
  show(am.lookup n).bind E.L=some v
  rw[ju h2 h];exact hb
 have eI:Ec.I=E.I:=by rw[hEc]
 have notin: ∀ {β:Type} {l:List (Nat×β)} {n:Nat},l.lookup n=none→n∉l.map (·.1):=fun {β l n} h hm=>by
  obtain⟨⟨k,x⟩,hx,rfl⟩:=List.mem_map.1 hm
  rw[List.lookup_eq_none_iff]at h
  have:=h _ hx
  simp at this
 refine⟨⟨fun n e cs h=>?_,fun n n' b h h'=>?_,fun n b h=>?_,fun n e k rows h=>?_,fun n v b h hb=>?_,fun n n' v v' b h h' hb hb'=>?_,fun n h=>?_,fun n h=>?_,fun b hb=>hs.il b (eI▸hb)⟩,fun E1 w' hm hchg hmB hmI hI1 hfoot=>?_⟩
 ·obtain⟨t,cs',q1,q2,q3⟩:=zly hbl (qK (by rw[←hlB];exact h))
  obtain⟨b,vs,r1,r2,r3,_⟩:=hs.blk _ _ _ q2
  exact⟨b,vs,cB n t b (qK q1) r1,r2,QR eI (fun n a v hm hv=>cL n a v hm hv) q3 r3⟩
 ·obtain⟨t,q1,q2⟩:=eB _ _ h
  obtain⟨t',q1',q2'⟩:=eB _ _ h'
  have:=hs.inj _ _ _ q2 q2'
  subst this
  exact Y1 h1 q1 q1'
 ·obtain⟨t,q1,q2⟩:=eB _ _ h
  rw[eI];exact hs.bl _ _ q2
 ·obtain⟨t,q1,q2⟩:=zlv hal (qK (by rw[←zc5];exact h))
  obtain⟨v,us,r1,r2,r3,r4,_⟩:=hs.arr _ _ _ _ q2
  exact⟨v,us,cL n t v (qK q1) r1,r2,eI▸r3,r4⟩
 ·obtain⟨t,q1,q2⟩:=eL _ _ h
  obtain⟨r1,r2,r3⟩:=hs.al _ _ _ q2 hb
  refine⟨r1,eI▸r2,fun m hm=>?_⟩
  obtain⟨t',_,q4⟩:=eB _ _ hm
  exact r3 t' q4
 ·obtain⟨t,q1,q2⟩:=eL _ _ h
  obtain⟨t',q1',q2'⟩:=eL _ _ h'
  have:=hs.ai _ _ _ _ _ q2 q2' hb hb'
  subst this
  exact Y1 h2 q1 q1'
 ·cases hq:Ec.B n with
  |none=>rfl
  |some b=>
   obtain⟨t,q1,q2⟩:=eB _ _ hq
   rcases zbz hfB q1 with q3|q3
   ·exact absurd q3 (notin (by rw[←hlB];exact h))
   ·rw[hs.bn t q3]at q2;cases q2
 ·cases hq:Ec.L n with
  |none=>rfl
  |some b=>
   obtain⟨t,q1,q2⟩:=eL _ _ hq
   rcases zbz hfA q1 with q3|q3
   ·exact absurd q3 (notin (by rw[←zc5];exact h))
   ·rw[hs.an t q3]at q2;cases q2
 ·
  have fNew: ∀b,foot Ec b→w0.heap.size≤b∨X.X b:=fun b hb=>by
   rcases hb with⟨n,hn⟩|⟨n,v,hn,hv⟩
   ·obtain⟨t,_,q2⟩:=eB _ _ hn
    cases hq:S.blks t with
    |none=>rw[hs.bn t hq]at q2;cases q2
    |some y=>
     obtain⟨b',vs,r1,r2,r3,r4⟩:=hs.blk t y.1 y.2 hq
     rw[q2]at r1;cases r1
     exact r4
   ·obtain⟨t,_,q2⟩:=eL _ _ hn
    cases hq:S.arrs t with
    |none=>rw[hs.an t hq]at q2;cases q2
    |some y=>
     obtain⟨v',us,r1,r2,r3,r4,r5⟩:=hs.arr t y.1 y.2.1 y.2.2 hq
     rw[q2]at r1;cases r1
     exact r5 b hv
  have fLt: ∀b,foot Ec b→b<w.heap.size:=fun b hb=>by
   rcases hb with⟨n,hn⟩|⟨n,v,hn,hv⟩
   ·obtain⟨t,_,q2⟩:=eB _ _ hn;exact(hs.bl _ _ q2).1
   ·obtain⟨t,_,q2⟩:=eL _ _ hn;exact(hs.al _ _ _ q2 hv).1
  have fB: ∀t b,E.B t=some b→foot Ec b→∃n,(n,t)∈bm∧Ec.B n=some b:=fun t b ht hf=>by
   rcases hf with⟨n,hn⟩|⟨n,v,hn,hv⟩
   ·obtain⟨t',q1,q2⟩:=eB _ _ hn
    have:=hs.inj _ _ _ ht q2
    subst this
    exact⟨n,q1,hn⟩
   ·obtain⟨t',_,q2⟩:=eL _ _ hn
    exact absurd ht ((hs.al _ _ _ q2 hv).2.2 t)
  have fL: ∀c v b,E.L c=some v→v.ownBlock=some b→foot Ec b→∃n,(n,c)∈am:=fun c v b hc hv hf=>by
   rcases hf with⟨n,hn⟩|⟨n,v',hn,hv'⟩
   ·obtain⟨t',_,q2⟩:=eB _ _ hn
    exact absurd q2 ((hs.al _ _ _ hc hv).2.2 t')
   ·obtain⟨t',q1,q2⟩:=eL _ _ hn
    have:=hs.ai _ _ _ _ _ hc q2 hv hv'
    subst this
    exact⟨n,q1⟩
  have fI: ∀b,E.I b→¬foot Ec b:=fun b hb hf=>by
   rcases hf with⟨n,hn⟩|⟨n,v,hn,hv⟩
   ·obtain⟨t,_,q2⟩:=eB _ _ hn;exact(hs.bl _ _ q2).2 hb
   ·obtain⟨t,_,q2⟩:=eL _ _ hn;exact(hs.al _ _ _ q2 hv).2.1 hb
  have hmem: ∀b,b<w.heap.size→¬foot Ec b→w'.heap[b]? =w.heap[b]? :=fun b hb hf=>hchg.block b hb hf
  have hmI': ∀b,E.I b→w'.heap[b]? =w.heap[b]? :=fun b hb=>hmem b (hs.il b hb) (fI b hb)
  have hII: ∀b,E.I b→E1.I b:=fun b hb=>hmI b (eI▸hb)
  let E2:qN:=⟨fun t=>match inv bm t with
   |some n=>(match E1.B n with
    |some b=>some b
    |none=>E.B t)
   |none=>E.B t,fun c=>match inv am c with
   |some n=>E1.L n
   |none=>E.L c,E1.I⟩
  have sB: ∀t b,E2.B t=some b→(∃n,(n,t)∈bm∧E1.B n=some b)∨(E.B t=some b∧¬foot Ec b):=fun t b h=>by
   have h:(match inv bm t with
    |some n=>(match E1.B n with
     |some b=>some b
     |none=>E.B t)
    |none=>E.B t)=some b:=h
   split at h
   ·rename_i n hn
    split at h
    ·rename_i b' hb'
     cases h
     exact .inl ⟨n,Jb hn,hb'⟩
    ·rename_i hno
     refine .inr ⟨h,fun hf=>?_⟩
     obtain⟨n',q1,q2⟩:=fB _ _ h hf
     have:=Y1 h1 (Jb hn) q1
     subst this
     rw[hmB _ _ q2]at hno;cases hno
   ·rename_i hn
    refine .inr ⟨h,fun hf=>?_⟩
    obtain⟨n',q1,q2⟩:=fB _ _ h hf
    exact zgx hn q1
  have sL: ∀c v,E2.L c=some v→(∃n,(n,c)∈am∧E1.L n=some v)∨((∀n,(n,c)∉am)∧E.L c=some v):=fun c v h=>by
   have h:(match inv am c with
    |some n=>E1.L n
    |none=>E.L c)=some v:=h
   split at h
   ·rename_i n hn;exact .inl ⟨n,Jb hn,h⟩
   ·rename_i hn;exact .inr ⟨fun n hm=>zgx hn hm,h⟩
  have gB: ∀n t b,(n,t)∈bm→E1.B n=some b→E2.B t=some b:=fun n t b hm hb=>by
   show(match inv bm t with
    |some n=>(match E1.B n with
     |some b=>some b
     |none=>E.B t)
    |none=>E.B t)=some b
   rw[zpU h1 hm];simp only[hb]
  have gL: ∀n c v,(n,c)∈am→E1.L n=some v→E2.L c=some v:=fun n c v hm hv=>by
   show(match inv am c with
    |some n=>E1.L n
    |none=>E.L c)=some v
   rw[zpU h2 hm];exact hv
  have hB: ∀t b,E.B t=some b→E2.B t=some b:=fun t b ht=>by
   show(match inv bm t with
    |some n=>(match E1.B n with
     |some b=>some b
     |none=>E.B t)
    |none=>E.B t)=some b
   split
   ·rename_i n hn
    rw[hmB n b (cB n t b (Jb hn) ht)]
   ·exact ht
  have hL: ∀c v,(am.map (·.2)).contains c=false→E.L c=some v→E2.L c=some v:=fun c v hc hv=>by
   show(match inv am c with
    |some n=>E1.L n
    |none=>E.L c)=some v
   have:inv am c=none:=by
    cases hq:inv am c with
    |none=>rfl
    |some n=>
     have h3:=Jb hq
     have:(am.map (·.2)).contains c=true:=by simpa using ⟨n,h3⟩
     rw[this]at hc;cases hc
   rw[this];exact hv
  have rB: ∀n b,E1.B n=some b→(yH bm n,YX n bl')=(yH bm n,YX n bl')∧(n,yH bm n)∈bm:=fun n b hb=>by
   refine⟨rfl,?_⟩
   cases hq:YX n bl' with
   |none=>rw[hm.bn n hq]at hb;cases hb
   |some y=>
    have hx:=qK (by rw[←hlB];exact hq:bl'.lookup n=some y)
    exact qK (YS (List.all_eq_true.1 hcB _ hx))
  have rL: ∀n v,E1.L n=some v→(n,yH am n)∈am:=fun n v hv=>by
   cases hq:lkR n al' with
   |none=>rw[hm.an n hq]at hv;cases hv
   |some y=>
    have hx:=qK (by rw[←zc5];exact hq:al'.lookup n=some y)
    exact qK (YS (List.all_eq_true.1 hcA _ hx))
  have qB: ∀n b,E1.B n=some b→E2.B (yH bm n)=some b:=fun n b hb=>gB n _ b (rB n b hb).2 hb
  have qL: ∀n v,E1.L n=some v→E2.L (yH am n)=some v:=fun n v hv=>gL n _ v (rL n v hv) hv
  have f1: ∀b,b<w.heap.size→foot E1 b→foot Ec b:=fun b hb hf=>(hfoot b hf).resolve_left (by omega)
  have fNew1: ∀b,foot E1 b→w0.heap.size≤b∨X.X b:=fun b hb=>(hfoot b hb).elim (fun h=>.inl (Nat.le_trans hs.chg.size h)) (fNew b)
  have bKey: ∀t,(∃n x,bl'.lookup n=some x∧bm.lookup n=some t∧upL (fun t=>kB (am.map (·.2)) (S.blks t)) (znT bm am bl') t=some (x.1,x.2.map (rnC am)))∨
    ((∀n,(n,t)∈bm→bl'.lookup n=none)∧upL (fun t=>kB (am.map (·.2)) (S.blks t)) (znT bm am bl') t=kB (am.map (·.2)) (S.blks t)):=fun t=>
   znX (g:=fun(x:TypeId×List C)=>(x.1,x.2.map (rnC am))) h1 t bl' hcB
  have aKey: ∀c,(∃n x,al'.lookup n=some x∧am.lookup n=some c∧upL (kA (am.map (·.2)) S.arrs) (znR am al') c=some x)∨
    ((∀n,(n,c)∈am→al'.lookup n=none)∧upL (kA (am.map (·.2)) S.arrs) (znR am al') c=kA (am.map (·.2)) S.arrs c):=fun c=>
   znX (g:=fun(x:TypeId×Nat×List (List F))=>x) h2 c al' hcA
  have hcont: ∀c,(am.map (·.2)).contains c=false→∀n,(n,c)∉am:=fun c hc n hn=>by
   have:(am.map (·.2)).contains c=true:=by simpa using ⟨n,hn⟩
   rw[this]at hc;cases hc
  have hcont': ∀c,(∀n,(n,c)∉am)→(am.map (·.2)).contains c=false:=fun c hc=>by
   cases hq:(am.map (·.2)).contains c with
   |false=>rfl
   |true=>
    have: ∃n,(n,c)∈am:=by simpa using hq
    obtain⟨n,hn⟩:=this
    exact absurd hn (hc n)
  have fcell: ∀b,foot Ec b→∃o:Obj,w.heap[b]? =some o∧o.isCells=true:=fun b hf=>by
   rcases hf with⟨n,hn⟩|⟨n,v,hn,hv⟩
   ·obtain⟨t,_,q⟩:=eB _ _ hn
    exact hs.cellB q
   ·obtain⟨t,_,q⟩:=eL _ _ hn
    exact hs.cellL q hv
  have frC:Frk X w0 E1.I a.defers w':=(hs.fr.mem fun b hb=>by
   rcases hI1 b hb with h|h|h
   ·exact .inl (eI▸h)
   ·exact .inr (.inl h)
   ·exact .inr (.inr (fcell b h))).keep fun k o ho hc=>hchg.block k (Array.getElem?_eq_some_iff.1 ho).1 fun hf=>by
    obtain⟨o',h1,h2⟩:=fcell k hf
    rw[ho]at h1;cases h1;rw[hc]at h2;cases h2
  refine⟨E2,rfl,qB,qL,hs.chg.trans' hchg fun i hi hf=>(fNew i hf).resolve_left (by omega),frC,hs.sz,fun t=>zBf (E':=E2) hmI' hII hB hL (hs.slot t),fun t e cs ht=>?_,fun t t' b ht ht'=>?_,fun t b ht=>?_,fun c e k rows hc=>?_,fun c v b hc hv=>?_,fun c c' v v' b hc hc' hv hv'=>?_,fun t ht=>?_,fun c hc=>?_,hm.il,fun b hb=>hII b (hs.i0 b hb),fun b hb=>?_,fun t ht=>hB t _ (hs.kp t ht)⟩
  ·have ht:upL (fun t=>kB (am.map (·.2)) (S.blks t)) (znT bm am bl') t=some (e,cs):=ht
   rcases bKey t with⟨n,x,q1,q2,q3⟩|⟨q1,q2⟩
   ·rw[q3]at ht
    have e1:x.1=e∧x.2.map (rnC am)=cs:=by simpa using ht
    obtain⟨rfl,rfl⟩:=e1
    obtain⟨b,vs,r1,r2,r3⟩:=hm.blk n x.1 x.2 (by rw[hlB];exact q1)
    exact⟨b,vs,gB n t b (qK q2) r1,r2,zcF (E:=E1) (E':=E2) rfl qL r3,fNew1 b (.inl ⟨n,r1⟩)⟩
   ·rw[q2]at ht
    cases hq:S.blks t with
    |none=>rw[hq]at ht;cases ht
    | some y=>
     obtain⟨e0,cs0⟩:=y
     rw[hq]at ht
     have e1:e0=e∧cs0.map (kC (am.map (·.2)))=cs:=by
      have:some (e0,cs0.map (kC (am.map (·.2))))=some (e,cs):=ht
      simpa using this
     obtain⟨rfl,rfl⟩:=e1
     obtain⟨b,vs,r1,r2,r3,r4⟩:=hs.blk t e0 cs0 hq
     refine⟨b,vs,hB t b r1,?_,zm5 (E':=E2) hmI' hII hL r3,r4⟩
     refine(hmem b (hs.bl t b r1).1 fun hf=>?_).trans r2
     obtain⟨n,p1,p2⟩:=fB t b r1 hf
     have:=hm.bn n (by rw[hlB];exact q1 n p1)
     rw[hmB n b p2]at this;cases this
  ·rcases sB t b ht with⟨n,q1,q2⟩|⟨q1,q2⟩<;>rcases sB t' b ht' with⟨n',q1',q2'⟩|⟨q1',q2'⟩
   ·have:=hm.inj _ _ _ q2 q2'
    subst this
    have h3:=ju h1 q1
    rw[ju h1 q1']at h3
    cases h3;rfl
   ·exact absurd (f1 b (hs.bl _ _ q1').1 (.inl ⟨n,q2⟩)) q2'
   ·exact absurd (f1 b (hs.bl _ _ q1).1 (.inl ⟨n',q2'⟩)) q2
   ·exact hs.inj _ _ _ q1 q1'
  ·rcases sB t b ht with⟨n,q1,q2⟩|⟨q1,q2⟩
   ·exact hm.bl n b q2
   ·have hlt:=(hs.bl t b q1).1
    refine⟨Nat.lt_of_lt_of_le hlt hchg.size,fun hi=>?_⟩
    rcases hI1 b hi with h|h|h
    ·exact(hs.bl t b q1).2 (eI▸h)
    ·omega
    ·exact q2 h
  ·have hc:upL (kA (am.map (·.2)) S.arrs) (znR am al') c=some (e,k,rows):=hc
   rcases aKey c with⟨n,x,q1,q2,q3⟩|⟨q1,q2⟩
   ·rw[q3]at hc
    cases hc
    obtain⟨v,us,r1,r2,r3,r4⟩:=hm.arr n e k rows (by rw[zc5];exact q1)
    exact⟨v,us,gL n c v (qK q2) r1,r2,r3,r4,fun b hb=>fNew1 b (.inr ⟨n,v,r1,hb⟩)⟩
   ·rw[q2]at hc
    unfold kA at hc
    split at hc
    ·cases hc
    ·rename_i hk
     have hk:(am.map (·.2)).contains c=false:=by simpa using hk
     obtain⟨v,us,r1,r2,r3,r4,r5⟩:=hs.arr c e k rows hc
     refine⟨v,us,hL c v hk r1,Qp r2 fun b hb=>hmem b (hs.al c v b r1 hb).1 fun hf=>?_,⟨r3.1,fun j x u hx hu=>(r3.2 j x u hx hu).mono hmI' hII⟩,r4,r5⟩
     obtain⟨n,p1⟩:=fL c v b r1 hb hf
     exact hcont c hk n p1
  ·rcases sL c v hc with⟨n,q1,q2⟩|⟨q1,q2⟩
   ·obtain⟨r1,r2,r3⟩:=hm.al n v b q2 hv
    refine⟨r1,r2,fun t ht=>?_⟩
    rcases sB t b ht with⟨n',p1,p2⟩|⟨p1,p2⟩
    ·exact r3 n' p2
    ·exact p2 (f1 b (hs.bl _ _ p1).1 (.inr ⟨n,v,q2,hv⟩))
   ·obtain⟨r1,r2,r3⟩:=hs.al c v b q2 hv
    have hnf: ¬foot Ec b:=fun hf=>by
     obtain⟨n,p1⟩:=fL c v b q2 hv hf
     exact q1 n p1
    refine⟨Nat.lt_of_lt_of_le r1 hchg.size,fun hi=>?_,fun t ht=>?_⟩
    ·rcases hI1 b hi with h|h|h
     ·exact r2 (eI▸h)
     ·omega
     ·exact hnf h
    ·rcases sB t b ht with⟨n',p1,p2⟩|⟨p1,p2⟩
     ·exact hnf (f1 b r1 (.inl ⟨n',p2⟩))
     ·exact r3 t p1
  ·rcases sL c v hc with⟨n,q1,q2⟩|⟨q1,q2⟩<;>rcases sL c' v' hc' with⟨n',q1',q2'⟩|⟨q1',q2'⟩
   ·have:=hm.ai _ _ _ _ _ q2 q2' hv hv'
    subst this
    have h3:=ju h2 q1
    rw[ju h2 q1']at h3
    cases h3;rfl
   ·exfalso
    obtain⟨n2,p1⟩:=fL c' v' b q2' hv' (f1 b (hs.al _ _ _ q2' hv').1 (.inr ⟨n,v,q2,hv⟩))
    exact q1' n2 p1
   ·exfalso
    obtain⟨n2,p1⟩:=fL c v b q2 hv (f1 b (hs.al _ _ _ q2 hv).1 (.inr ⟨n',v',q2',hv'⟩))
    exact q1 n2 p1
   ·exact hs.ai _ _ _ _ _ q2 q2' hv hv'
  ·have ht:upL (fun t=>kB (am.map (·.2)) (S.blks t)) (znT bm am bl') t=none:=ht
   rcases bKey t with⟨n,x,q1,q2,q3⟩|⟨q1,q2⟩
   ·rw[q3]at ht;cases ht
   ·rw[q2]at ht
    have hno:S.blks t=none:=by
     cases hq:S.blks t with
     |none=>rfl
     |some y=>rw[hq]at ht;cases ht
    cases hq:E2.B t with
    |none=>rfl
    |some b=>
     rcases sB t b hq with⟨n,p1,p2⟩|⟨p1,p2⟩
     ·rw[hm.bn n (by rw[hlB];exact q1 n p1)]at p2;cases p2
     ·rw[hs.bn t hno]at p1;cases p1
  ·have hc:upL (kA (am.map (·.2)) S.arrs) (znR am al') c=none:=hc
   cases hq:E2.L c with
   |none=>rfl
   | some v=>
    rcases aKey c with⟨n,x,q1,q2,q3⟩|⟨q1,q2⟩
    ·rw[q3]at hc;cases hc
    ·rw[q2]at hc
     rcases sL c v hq with⟨n,p1,p2⟩|⟨p1,p2⟩
     ·rw[hm.an n (by rw[zc5];exact q1 n p1)]at p2;cases p2
     ·unfold kA at hc
      rw[if_neg (by rw[hcont' c p1];simp)]at hc
      rw[hs.an c hc]at p2;cases p2
  ·rcases hI1 b hb with h|h|h
   ·exact hs.i1 b (eI▸h)
   ·exact .inr (.inl (Nat.le_trans hs.chg.size h))
   ·exact .inr (fNew b h)
end
def yE (P:Program) (X:Fr) (w0:World) (N:Nat) (o:Oper) (K:St→Prop) (S:St):Prop:=
 ∀(E:qN) (a:Act) (w:World),qv X w0 N S E a w→(∀t,o.dst=some t→t<N)→∀(K':Act→World→Prop) (Q:Exit→Act→World→Prop),(∀S' E' a' w',K S'→qv X w0 N S' E' a' w'→K' a' w')→o.wp P a w K' Q
section
variable {P:Program} {X:Fr} {w0:World} {N:Nat} {S:St} {T:Nat→Option Ty} {o:Oper} {K:St→Prop}
theorem Qo {S':St} (hw:zY X S S') (h:yE P X w0 N o K S'):yE P X w0 N o K S:=fun E a w hs hd K' Q hK=>by
 obtain⟨E',hs'⟩:=hw _ _ _ _ _ hs
 exact h E' a w hs' hd K' Q hK
theorem zk8 {c:Call} {f:FuncId} (hop:o.op= .call c) (hf:c.callee= .value (.func f)) {as:List V} {res:V} (hc:zu P f as res) (ha:zc9 (c.args.toList.map (ev S)) as) (hK:K ⟨qh S.slots o.dst res,S.blks,S.arrs⟩):yE P X w0 N o K S:=
 fun E a w hs hd K' Q h=>zhv hop (.inl hf) hc.1 hc.2 ha hs hd fun E' a' w' h'=>h _ _ _ _ hK h'
def zqL:List C→Bool
 |[]=>true
 | .f _::r=>zqL r
 | _::_=>false
def zxr:List (Bool×List C)→Bool
 |[]=>true
 |(_,x)::r=>zqL x&&zxr r
def zc8:List V→Bool
 |[]=>true
 | .c (.f _)::r=>zc8 r
 | .agg xs::r=>zqL xs&&zc8 r
 | .tup xs::r=>zxr xs&&zc8 r
 | .rd _::r=>zc8 r
 | .clo _ fi ca::r=>zZ (fi++ca)&&zc8 r
 | _::_=>false
theorem zkQ (x:F):yT x x:=by unfold yT;split<;>simp_all
theorem zgw: ∀ {xs:List C},zqL xs=true→cle xs xs
 |[],_=>trivial
 | .f x::xs,h=>⟨zkQ x,zgw h⟩
 | .o _::_,h=>by simp[zqL]at h
 | .un::_,h=>by simp[zqL]at h
theorem zl9: ∀ {xs:List (Bool×List C)},zxr xs=true→ple xs xs
 |[],_=>trivial
 |(b,x)::xs,h=>by
  simp only[zxr,Bool.and_eq_true]at h
  exact⟨rfl,zgw h.1,zl9 h.2⟩
theorem zq: ∀ {xs:List V},zc8 xs=true→zc9 xs xs
 |[],_=>trivial
 | x::xs,h=>by
  cases x with
  |c x=>cases x with
   |f x=>exact⟨⟨zkQ x,trivial⟩,zq h⟩
   | _=>simp[zc8]at h
  |agg ys=>simp only[zc8,Bool.and_eq_true]at h;exact⟨zgw h.1,zq h.2⟩
  |tup ys=>simp only[zc8,Bool.and_eq_true]at h;exact⟨zl9 h.1,zq h.2⟩
  |rd ys=>exact⟨rfl,zq h⟩
  |clo f fi ca=>simp only[zc8,Bool.and_eq_true]at h;exact⟨⟨⟨rfl,rfl,rfl⟩,h.1⟩,zq h.2⟩
  | _=>simp[zc8]at h
theorem zgh {c:Call} {f:FuncId} (hop:o.op= .call c) (hf:c.callee= .value (.func f)) {as:List V} {r:Value} (hc:zu P f as (.c (.f (.s r)))) (ha:zbi S.arrs (c.args.toList.map (ev S)) as) (hK:K ⟨qh S.slots o.dst (.c (.f (.s r))),S.blks,S.arrs⟩):yE P X w0 N o K S:=
 fun E a w hs hd K' Q h=>zqU hop hf hc.1 hc.2 ha hs hd fun E' a' w' h'=>h _ _ _ _ hK h'
theorem zdZ {c:Call} {f:FuncId} {vs:List V} {fn:Func} (hop:o.op= .call c) (hf:zeR S c=some (f,vs)) (hfn:P.funcs[f]? =some fn) (hbody:fn.body.isNone=false) (hnm:(fn.name== "runtime.NumGoroutine")=false) {E:qN} {a:Act} {w:World} (hs:qv X w0 N S E a w):
  ∃us:Array Value,vs.length=us.size∧(∀(j:Nat) v u,vs[j]? =some v→us[j]? =some u→qr w E v u)∧(execOp a.eval o).run P w= .ok (.enter f us) w:=by
 obtain⟨callee,cargs,argTypes⟩:=c
 have hargs: ∀(j:Nat) v u,(cargs.toList.map (ev S))[j]? =some v→(cargs.map a.eval)[j]? =some u→qr w E v u:=fun j v u hv hu=>by
  rw[List.getElem?_map]at hv
  rw[Array.getElem?_map]at hu
  cases hq:cargs[j]? with
  |none=>simp[hq]at hu
  |some q=>
   simp[hq]at hu
   rw[show cargs.toList[j]? =some q by simpa using hq]at hv
   cases hv
   subst hu
   exact hs.ev q
 unfold zeR at hf
 have e1:fn.body≠none:=fun h=>by simp[h]at hbody
 have e2:fn.name≠ "runtime.NumGoroutine" :=by simpa using hnm
 simp only at hf
 split at hf
 ·rename_i x
  have hx':=hs.ev x
  split at hf
  ·rename_i g fi ca hev
   split at hf
   ·rename_i hz
    cases hf
    rw[hev]at hx'
    generalize hu:a.eval x=u at hx'
    obtain rfl:=zhK hx'
    have hfi:fi= #[]:=Array.eq_empty_of_size_eq_zero hz.1
    have hca:ca= #[]:=Array.eq_empty_of_size_eq_zero hz.2
    subst hfi;subst hca
    exact⟨cargs.map a.eval,by simp,hargs,by simp[execOp,hop,resolve,invoke,hu,Deferred.ofValue,callFunc,hfn,e1,e2]⟩
   ·cases hf
  ·rename_i g fi ca hev
   cases hf
   rw[hev]at hx'
   generalize hu:a.eval x=u at hx'
   cases hx' with
   | @clo _ _ _ us vs h3 h4=>
    refine⟨us++cargs.map a.eval++vs,by simp[h3.1,h4.1],fun j v u hv hu'=>?_,by simp[execOp,hop,resolve,invoke,hu,Deferred.ofValue,callFunc,hfn,e1,e2]⟩
    have l1:fi.length=us.size:=by simpa using h3.1
    have l2:ca.length=vs.size:=by simpa using h4.1
    rcases Nat.lt_or_ge j (fi.length+cargs.size)with hj|hj
    ·rw[List.getElem?_append_left (by simpa using hj)]at hv
     rw[Array.getElem?_append_left (by simp;omega)]at hu'
     rcases Nat.lt_or_ge j fi.length with hj2|hj2
     ·rw[List.getElem?_append_left (by simpa using hj2),List.getElem?_map]at hv
      rw[Array.getElem?_append_left (by omega)]at hu'
      cases hq:fi[j]? with
      |none=>rw[hq]at hv;cases hv
      |some q=>
       rw[hq]at hv
       cases hv
       exact(h3.2 j q u hq (by simpa using hu')).toV
     ·rw[List.getElem?_append_right (by simpa using hj2)]at hv
      rw[Array.getElem?_append_right (by omega)]at hu'
      exact hargs (j - us.size) v u (by simpa[l1]using hv) hu'
    ·rw[List.getElem?_append_right (by simpa using hj),List.getElem?_map]at hv
     rw[Array.getElem?_append_right (by simp;omega)]at hu'
     cases hq:ca[j - (fi.map W.toV++cargs.toList.map (ev S)).length]? with
     |none=>rw[hq]at hv;cases hv
     |some q=>
      rw[hq]at hv
      cases hv
      have:j - (fi.map W.toV++cargs.toList.map (ev S)).length=j - (us++cargs.map a.eval).size:=by simp[l1]
      rw[this]at hq
      exact(h4.2 _ q u hq (by simpa using hu')).toV
  ·rename_i g cs hev
   cases hf
   rw[hev]at hx'
   generalize hu:a.eval x=u at hx'
   obtain⟨vs,rfl,h4⟩: ∃vs:Array Value,u= .func (.func _) #[] vs∧RepWs w E (cs.map .rd) vs.toList:=by
    cases hx' with|c h=>cases h with|f h=>exact zAv h
   refine⟨cargs.map a.eval++vs,by have:=h4.1;simp at this;simp[this],fun j v u hv hu'=>?_,by simp[execOp,hop,resolve,invoke,hu,Deferred.ofValue,callFunc,hfn,e1,e2]⟩
   rcases Nat.lt_or_ge j cargs.size with hj|hj
   ·rw[List.getElem?_append_left (by simpa using hj)]at hv
    rw[Array.getElem?_append_left (by simpa using hj)]at hu'
    exact hargs j v u hv hu'
   ·rw[List.getElem?_append_right (by simpa using hj)]at hv
    rw[Array.getElem?_append_right (by simpa using hj)]at hu'
    simp only[List.length_map,Array.length_toList,Array.size_map]at hv hu'
    have hw:=h4.2 (j - cargs.size)
    rw[List.getElem?_map]at hv
    cases hq:cs[j - cargs.size]? with
    |none=>rw[hq]at hv;cases hv
    |some xs=>
     rw[hq]at hv;cases hv
     exact(hw (.rd xs) u (by rw[List.getElem?_map,hq];rfl) (by simpa using hu')).toV
  ·cases hf
 ·cases hf
theorem Zv {c:Call} {f:FuncId} {vs:List V} (hop:o.op= .call c) (hf:zeR S c=some (f,vs)) {as:List V} {res:V} (hc:zu P f as res) (ha:zc9 vs as) (hK:K ⟨qh S.slots o.dst res,S.blks,S.arrs⟩):yE P X w0 N o K S:=fun E a w hs hd K' Q hK'=>by
 obtain⟨⟨fn,hfn,hbody,hnm⟩,hc⟩:=hc
 obtain⟨us,hl,hv,hx⟩:=zdZ hop hf hfn hbody hnm hs
 obtain⟨hl2,hv2⟩:=zeI (w:=w) (E:=E) (E':=.pure E.I) rfl ha
 unfold Oper.wp
 rw[hx]
 refine Calls.mono (hc w us E.I hs.il (by rw[←hl2,hl]) fun j v u h1 h2=>hv2 j v u h1 fun x hx=>hv j x u hx h2) ?_
 rintro e w' ⟨u,I',rfl,hr,hbel,hI,hI'⟩
 obtain⟨E',h'⟩:=hs.called hr hbel hI hI' o.dst hd
 exact hK' _ _ _ _ hK h'
theorem zt {c:Call} {f:FuncId} {vs:List V} (hop:o.op= .call c) (hf:zeR S c=some (f,vs)) {args:List V} {bl:BL} {al:RL} {res:V} {bl':BL} {al':RL} (bm am:List (Nat×Nat)) (hc:zA P f args bl al res bl' al')
  (h1:zaH bm=true) (h2:zaH am=true) (hcB:zcW bm bl'=true) (hcA:zcW am al'=true) (ha:mvs bm am vs args) (hbl:ztU bm am S.blks bl) (hal:zsV am S.arrs al)
  (hfB:zbs (bl.map (·.1)) S.blks bm) (hfA:zbs (al.map (·.1)) S.arrs am)
  (hK:K ⟨qh (fun t=>kV (am.map (·.2)) (S.slots t)) o.dst (rnV bm am res),upL (fun t=>kB (am.map (·.2)) (S.blks t)) (znT bm am bl'),upL (kA (am.map (·.2)) S.arrs) (znR am al')⟩):yE P X w0 N o K S:=fun E a w hs hd K' Q hK'=>by
 obtain⟨⟨fn,hfn,hbody,hnm⟩,hc⟩:=hc
 obtain⟨hm,hafter⟩:=hs.callM h1 h2 hbl hal hfB hfA hcB hcA _ rfl
 obtain⟨us,hl,hv,hx⟩:=zdZ hop hf hfn hbody hnm hs
 obtain⟨hl2,hv2⟩:=zts (w:=w) (E:=E) (E':=⟨fun n=>(bm.lookup n).bind E.B,fun n=>(am.lookup n).bind E.L,E.I⟩) rfl (fun n t b hm hb=>by show(bm.lookup n).bind E.B=some b;rw[ju h1 hm];exact hb) (fun n t v hm hb=>by show(am.lookup n).bind E.L=some v;rw[ju h2 hm];exact hb) ha
 unfold Oper.wp
 rw[hx]
 refine Calls.mono (hc w us _ hm (by rw[←hl2,hl]) fun j v u h3 h4=>hv2 j v u h3 fun x hx=>hv j x u hx h4) ?_
 rintro e w' ⟨u,E1,rfl,q1,q2,q3,q4,q5,q6,q7⟩
 obtain⟨E2,r1,r2,r3,r4⟩:=hafter E1 w' q1 q3 q4 q5 q6 q7
 exact hK' _ _ _ _ hK (r4.env _ u (zy2 r1 r2 r3 q2) o.dst hd)
end
def stops:Op→Bool
 | .call c=>match c.callee with
  | .builtin _=>false
  | _=>true
 | .binOp _ _ _ (.const (.slice none 0 0)) _=>true
 | .buildSlice _ n _=>match n with
  |1=>false
  | _=>true
 | _=>false
def jx (P:Program) (T:Nat→Option Ty) (dst:Option Nat) (op:Op) (K:St→Prop) (S:St):Prop:=match qb P T S op with
 |some (p,.put v,_)=>p∧QM (fun v=>K ⟨qh S.slots dst v,S.blks,S.arrs⟩) v
 |some (p,.box e cs,_)=>match dst with
  |some d=>p∧S.blks d=none∧K ⟨ja S.slots d (.loc d 0),ja S.blks d (some (e,cs)),S.arrs⟩
  |none=>False
 |some (p,.store b e cs,_)=>dst=none∧p∧K ⟨S.slots,ja S.blks b (some (e,cs)),S.arrs⟩
 |some (p,.mk _ k rows,_)=>p∧K ⟨qh S.slots dst (.c (.f (.l k rows))),S.blks,S.arrs⟩
 |some (p,.app ko e k rows,_)=>match dst with
  |some d=>p∧(S.arrs d=none∨ko=some d)∧K ⟨ja (fun t=>jK ko (S.slots t)) d (.c (.o d)),fun t=>Yv ko (S.blks t),fun c=>if c=d then some (e,k,rows)else if ko=some c then none else S.arrs c⟩
  |none=>False
 |some (p,.elt c e k rows,_)=>dst=none∧p∧K ⟨S.slots,S.blks,fun x=>if x=c then some (e,k,rows)else S.arrs x⟩
 |none=>False
def zbd (P:Program) (T:Nat→Option Ty) (X:Fr) (w0:World) (N:Nat) (o:Oper) (K:St→Prop) (S:St):Prop:=match stops o.op with
 |true=>yE P X w0 N o K S
 |false=>jx P T o.dst o.op K S
def exU (P:Program) (T:Nat→Option Ty) (X:Fr) (w0:World) (N:Nat) (ops:Array Oper):List Oper→(St→Prop)→St→Prop
 |[],K,S=>K S
 |o::os,K,S=>gd2 (ZN S (ZW ops o.guard)) (zbd P T X w0 N o (exU P T X w0 N ops os K)) (Qu o.dst (exU P T X w0 N ops os K)) S
section
variable {P:Program} {T:Nat→Option Ty} {ops:Array Oper} {K:St→Prop} {X:Fr} {w0:World} {N:Nat} {s:Nat→V} {b:Nat→Option (TypeId×List C)} {a:Nat→Option (TypeId×Nat×List (List F))}
theorem zeF:exU P T X w0 N ops [] K ⟨s,b,a⟩=K ⟨s,b,a⟩:=rfl
theorem Yh {o:Oper} {os:List Oper}:exU P T X w0 N ops (o::os) K ⟨s,b,a⟩=gd2 (ZN ⟨s,b,a⟩ (ZW ops o.guard)) (zbd P T X w0 N o (exU P T X w0 N ops os K)) (Qu o.dst (exU P T X w0 N ops os K)) ⟨s,b,a⟩:=rfl
theorem JJ {o:Oper}:zbd P T X w0 N o K ⟨s,b,a⟩=match stops o.op with
 |true=>yE P X w0 N o K ⟨s,b,a⟩
 |false=>jx P T o.dst o.op K ⟨s,b,a⟩:=rfl
theorem zdQ {α:Type} {k off:Nat} {fs:List α} (ho:off+fs.length≤k): ∀(rows:List (List α)) (n:Nat) (r:List α),(∀r∈rows,r.length=k)→rows[n]? =some r→
  (rows.set n (r.take off++fs++r.drop (off+fs.length))).flatten=rows.flatten.take (n*k+off)++fs++rows.flatten.drop (n*k+off+fs.length)
 |[],n,r,_,h=>by simp at h
 |r0::rs,0,r,hk,h=>by
  simp at h;subst h
  have:=hk r0 (by simp)
  simp only[List.set_cons_zero,List.flatten_cons,Nat.zero_mul,Nat.zero_add]
  rw[List.take_append_of_le_length (by omega),List.drop_append_of_le_length (by omega)]
  simp
 |r0::rs,n+1,r,hk,h=>by
  have h0:=hk r0 (by simp)
  simp only[List.set_cons_succ,List.flatten_cons]
  rw[zdQ ho rs n r (fun r hr=>hk r (by simp[hr])) (by simpa using h)]
  have e1:(n+1)*k+off=r0.length+(n*k+off):=by rw[h0,Nat.add_mul];omega
  rw[e1,Nat.add_assoc r0.length,List.take_length_add_append,List.drop_length_add_append]
  simp
theorem zql {α:Type} {A B:List α} {p L:Nat} (h1:p+B.length≤L) (h2:L≤A.length):(A.take p++B++A.drop (p+B.length)).take L=(A.take L).take p++B++(A.take L).drop (p+B.length):=by
 have e1:(A.take p++B).length=p+B.length:=by rw[List.length_append,List.length_take];omega
 have e2:L=(A.take p++B).length+(L - (p+B.length)):=by omega
 rw[e2,List.take_length_add_append,←e2,List.take_take,Nat.min_eq_left (by omega),List.drop_take]
theorem zwC {α β:Type} {R:α→β→Prop} {xs ys:List α} {us vs:List β} (hx:xs.length=us.length) (hy:ys.length=vs.length) (h1: ∀(j:Nat) x u,xs[j]? =some x→us[j]? =some u→R x u) (h2: ∀(j:Nat) x u,ys[j]? =some x→vs[j]? =some u→R x u) (p:Nat) (hp:p+ys.length≤xs.length):
  ∀(j:Nat) x u,(xs.take p++ys++xs.drop (p+ys.length))[j]? =some x→(us.take p++vs++us.drop (p+vs.length))[j]? =some u→R x u:=fun j x u hx' hu'=>by
 have l1:(xs.take p).length=p:=by rw[List.length_take];omega
 have l2:(us.take p).length=p:=by rw[List.length_take];omega
 by_cases q1:j<p
 ·rw[List.append_assoc,List.getElem?_append_left (by omega),List.getElem?_take,if_pos q1]at hx' hu'
  exact h1 j x u hx' hu'
 ·by_cases q2:j<p+ys.length
  ·rw[List.append_assoc,List.getElem?_append_right (by omega),List.getElem?_append_left (by omega)]at hx' hu'
   rw[l1]at hx'
   rw[l2]at hu'
   exact h2 _ x u hx' hu'
  ·rw[List.getElem?_append_right (by rw[List.length_append];omega),List.getElem?_drop,List.length_append,l1]at hx'
   rw[List.getElem?_append_right (by rw[List.length_append];omega),List.getElem?_drop,List.length_append,l2]at hu'
   rw[←hy]at hu'
   exact h1 _ x u hx' hu'
theorem qv.overArr {S:St} {E:qN} {act:Act} {w:World} (hs:qv X w0 N S E act w) {ar:Nat} {e:TypeId} {k:Nat} {rows:List (List F)} (h:S.arrs ar=some (e,k,rows)) {n off:Nat} {r:List F} (hn:rows[n]? =some r) {fs:List F} {vs:List Value} (ho:off+fs.length≤k) (hf:RepFs w E.I fs vs):
  ∃g cap cur,E.L ar=some (.slice (some ⟨g,0,none⟩) rows.length cap)∧Blk w g e cur∧n*k+off+fs.length≤cur.size∧
   qv X w0 N ⟨S.slots,S.blks,fun b=>if b=ar then some (e,k,rows.set n (r.take off++fs++r.drop (off+fs.length)))else S.arrs b⟩ E act (w.setRow g (cur.toList.take (n*k+off)++vs++cur.toList.drop (n*k+off+fs.length)).toArray):=by
 obtain⟨v,us,hL,hown,hrep,hk,hnew⟩:=hs.arr _ _ _ _ h
 have hnl:n<rows.length:=(List.getElem?_eq_some_iff.1 hn).1
 rcases hown.2 with⟨_,h0⟩|⟨g,cap,cur,hv,hb,hg,hcap,hmax,hsz,htake⟩
 ·omega
 have hfl:=hf.1
 have hi1:n*k+off+fs.length≤rows.length*k:=by
  have:(n+1)*k≤rows.length*k:=Nat.mul_le_mul_right k hnl
  rw[Nat.add_mul]at this;omega
 have hi2:n*k+off+fs.length≤cur.size:=by
  have:rows.length*k≤cap*k:=Nat.mul_le_mul_right k hcap
  omega
 refine⟨g,cap,cur,hv▸hL,hg,hi2,?_⟩
 generalize hcur:(cur.toList.take (n*k+off)++vs++cur.toList.drop (n*k+off+fs.length)).toArray=cur'
 have hov:v.ownBlock=some g:=by rw[hv];rfl
 obtain⟨ha1,ha2,ha3⟩:=hs.al _ _ _ hL hov
 have hot: ∀b,b≠g→(w.setRow g cur').heap[b]? =w.heap[b]? :=fun b hb=>setRow_other w g b cur' hb
 have hmem: ∀b,E.I b→(w.setRow g cur').heap[b]? =w.heap[b]? :=fun b hb=>hot b fun e=>ha2 (e▸hb)
 have hle:qN.Le w (w.setRow g cur') E E:=⟨hmem,fun _ h=>h,fun _ _ h=>h,fun _ _ h=>h⟩
 have hszw:(w.setRow g cur').heap.size=w.heap.size:=by simp
 have hBlk:Blk w g e cur:=hg
 have hcs:cur'.size=cur.size:=by
  rw[←hcur]
  simp
  omega
 have hul:rows.flatten.length=us.length:=hrep.1
 have hfll:rows.flatten.length=rows.length*k:=zaJ hk
 refine⟨hs.chg.setRow (fun hlt=>(hnew g hov).resolve_left (by omega)) _,hs.fr.far (Y3 hBlk) hot,hs.sz,fun t=>(hs.slot t).mono hle,fun t e' cs ht=>?_,hs.inj,fun t b ht=>by rw[hszw];exact hs.bl t b ht,fun c e' k' rows' hc=>?_,fun c v' b hv' hb'=>by rw[hszw];exact hs.al c v' b hv' hb',hs.ai,hs.bn,fun c hc=>?_,fun b hb=>by rw[hszw];exact hs.il b hb,hs.i0,hs.i1,hs.kp⟩
 ·obtain⟨g2,vs2,h1,h2,h3,h4⟩:=hs.blk t e' cs ht
  have hne:g2≠g:=fun e=>ha3 t (e▸h1)
  exact⟨g2,vs2,h1,h2.setRow_far hne _,h3.mono hle,h4⟩
 ·have hc:(if c=ar then some (e,k,rows.set n (r.take off++fs++r.drop (off+fs.length)))else S.arrs c)=some (e',k',rows'):=hc
  by_cases hca:c=ar
  ·rw[if_pos hca]at hc;cases hc
   subst hca
   have hov2:=zwC (R:=y6 (w.setRow g cur') E.I) hul hfl (fun j y u hy hu=>(hrep.2 j y u hy hu).mono hmem fun _ h=>h) (fun j y u hy hu=>(hf.2 j y u hy hu).mono hmem fun _ h=>h) (n*k+off) (by omega)
   refine⟨v,us.take (n*k+off)++vs++us.drop (n*k+off+vs.length),hL,⟨?_,.inr ⟨g,cap,cur',by rw[hv];simp,Nat.zero_le _,hBlk.setRow_ _,by simpa using hcap,hmax,by rw[hcs];exact hsz,?_⟩⟩,⟨?_,?_⟩,fun r' hr'=>?_,hnew⟩
   ·have:=hown.1
    simp
    omega
   ·rw[List.length_set,←hcur,←htake,hfl]
    exact zql (by omega) (by
     have:rows.length*k≤cap*k:=Nat.mul_le_mul_right k hcap
     have e3:({toList:=rows}:Array (List F)).size=rows.length:=rfl
     refine Nat.le_trans this ?_
     have h9:cur.toList.length=cap*k:=hsz
     rw[h9];exact Nat.le_refl _)
   ·rw[zdQ ho rows n r hk hn]
    simp[-List.length_flatten]
    omega
   ·intro j y u hy hu
    rw[zdQ ho rows n r hk hn]at hy
    exact hov2 j y u hy hu
   ·rcases List.mem_or_eq_of_mem_set hr' with h1|rfl
    ·exact hk _ h1
    ·have:=hk _ (List.mem_of_getElem? hn)
     simp
     omega
  ·rw[if_neg hca]at hc
   obtain⟨v1,us1,q1,q2,q3,q4,q5⟩:=hs.arr _ _ _ _ hc
   exact⟨v1,us1,q1,Qp q2 fun b hb'=>hot b fun e=>hca (hs.ai c ar v1 v g q1 hL (e▸hb') hov),⟨q3.1,fun j y u hy hu=>(q3.2 j y u hy hu).mono hmem fun _ h=>h⟩,q4,q5⟩
 ·have hc:(if c=ar then some (e,k,rows.set n (r.take off++fs++r.drop (off+fs.length)))else S.arrs c)=none:=hc
  by_cases hca:c=ar
  ·rw[if_pos hca]at hc;cases hc
  ·rw[if_neg hca]at hc;exact hs.an c hc
theorem zsi (hT: ∀t y,T t=some y→q9 P t y) {o:Oper} {p:Prop} {c:Nat} {e:TypeId} {k:Nat} {rows:List (List F)} {rn:List Nat} {S:St} {E:qN} {act:Act} {w:World} (h:qb P T S o.op=some (p,.elt c e k rows,rn)) (hp:p) (hd:o.dst=none) (hs:qv X w0 N S E act w)
  {K:Act→World→Prop} {Q:Exit→Act→World→Prop} (hK: ∀E' a' w',qv X w0 N ⟨S.slots,S.blks,fun x=>if x=c then some (e,k,rows)else S.arrs x⟩ E' a' w'→K a' w'):o.wp P act w K Q:=by
 have key: ∃w',(execOp act.eval o).run P w= .ok .skip w'∧qv X w0 N ⟨S.slots,S.blks,fun x=>if x=c then some (e,k,rows)else S.arrs x⟩ E act w':=by
  obtain⟨dst,op,type,pos,after,guard⟩:=o
  simp only at h ⊢
  unfold qb at h
  split at h
  case h_20 t x v=>
   split at h
   ·split at h<;>cases h
   ·rename_i y ar k0 i off vs hy hx hv
    split at h<;>cases h
    rename_i k' rows0 fs hfz hb
    have hok:=hT _ _ hy
    obtain⟨rfl,hi,hoff,hfl⟩:=hp
    have hx':=hx▸hs.ev x
    generalize hu:act.eval x=u at hx'
    cases hx' with
    | @el _ _ _ _ n cap ad hL=>
     have hv':=QU (hs.ev v) hv
     obtain⟨hrf,hcs⟩:=zdh hfz hv'
     have hvl:(act.eval v).cells.toList.length=y.k:=by rw[←hrf.1,hfl]
     have hrow:rows0[i]? =some (rows0.getD i []):=by rw[List.getD_eq_getElem?_getD,List.getElem?_eq_getElem hi];rfl
     obtain⟨g,cap',cur,hL',hB,hlt,hsim⟩:=hs.overArr hb hrow (off:=off) (fs:=fs) (by omega) hrf
     have hL2:=hL'
     rw[hL]at hL2
     cases hL2
     rw[hfl]at hlt hsim
     have hr:=QC (P:=P) w g (i*k'+off) y.k e t cur (act.eval v).cells hB hok.size (by simpa using hvl) (by omega) (zoE hv')
     refine⟨_,?_,hsim⟩
     have hr2:(storeVar t ⟨g,i*k'+off,none⟩ (act.eval v)).run P w=_:=hr
     have e0:(⟨g,0,none⟩:Addr).add (i*k'+off)=⟨g,i*k'+off,none⟩:=by rw[j6,Nat.zero_add]
     simp[execOp,Instr.storeAt,Instr.sureAddr,hu,e0,hr2]
   ·cases h
  all_goals(repeat'(first|(cases h;done)|split at h))
 obtain⟨w',hx,hs'⟩:=key
 unfold Oper.wp
 rw[hx]
 show K (act.put o.dst undef) _
 rw[hd]
 exact hK _ _ _ hs'
theorem Jm (hT: ∀t y,T t=some y→q9 P t y) {o:Oper} {S:St} {E:qN} {act:Act} {w:World} (h:jx P T o.dst o.op K S) (hs:qv X w0 N S E act w) (hd: ∀t,o.dst=some t→t<N)
  {K':Act→World→Prop} {Q:Exit→Act→World→Prop} (hK: ∀S' E' a' w',K S'→qv X w0 N S' E' a' w'→K' a' w'):o.wp P act w K' Q:=by
 unfold jx at h
 split at h
 ·rename_i p v rn he
  exact zlV hT he h.1 hs hd fun E' a' w' h'=>hK _ _ _ _ (yv.1 h.2) h'
 ·rename_i p e cs rn he
  split at h
  ·rename_i d hdd
   obtain⟨vs,h1,h2⟩:=zln hT he hs
   exact zmq hdd (hd d hdd) h.2.1 hs h1 h2 fun E' a' w' h'=>hK _ _ _ _ h.2.2 h'
  ·exact h.elim
 ·rename_i p b e cs rn he
  obtain⟨cs0,gg,vs,h1,h2,h3,h4⟩:=zfs hT he h.2.1 hs
  exact zf1 h.1 h1 h2 hs h3 h4 fun E' a' w' h'=>hK _ _ _ _ h.2.2 h'
 ·rename_i p e k rows rn he
  exact zo7 hT he h.1 hs hd fun E' a' w' h'=>hK _ _ _ _ h.2 h'
 ·rename_i p ko e k rows rn he
  split at h
  ·rename_i d hdd
   exact zif hT he h.1 hdd (hd d hdd) h.2.1 hs fun E' a' w' h'=>hK _ _ _ _ h.2.2 h'
  ·exact h.elim
 ·rename_i p c e k rows rn he
  exact zsi hT he h.2.1 h.1 hs fun E' a' w' h'=>hK _ _ _ _ h.2.2 h'
 ·exact h.elim
theorem zcN {d:Option Nat} {op:Op} {S:St} (h:jx P T d op K S): ∀c,op≠ .defer c:=fun c e=>by
 subst e
 simp[jx,qb]at h
theorem zbP (hT: ∀t y,T t=some y→q9 P t y) (hd: ∀(i:Nat) (o:Oper),ops[i]? =some o→∀t,o.dst=some t→t<N) {Q:Exit→Act→World→Prop} (hK: ∀S' E' a' w',K S'→qv X w0 N S' E' a' w'→Q .normal a' w'):
  ∀(m i:Nat) {S:St} {E:qN} {a:Act} {w:World},exU P T X w0 N ops ((ops.toList.drop i).take m) K S→qv X w0 N S E a w→wpOpsIn (rdF X.rd) 0 P ops Q ((List.range m).map (i+ ·)) a w
 |0,i,S,E,a,w,h,hs=>hK _ _ _ _ h hs
 | m +1,i,S,E,a,w,h,hs=>by
  have e1:(List.range (m+1)).map (i+ ·)=i::(List.range m).map (i+1+ ·):=by
   rw[List.range_succ_eq_map]
   simp[List.map_map,Function.comp_def,Nat.add_assoc,Nat.add_comm,Nat.add_left_comm]
  rw[e1,wpOpsIn_cons]
  unfold wpOpIn
  cases ho:ops[i]? with
  |none=>
   have hi:ops.size≤i:=by simpa using ho
   rw[List.drop_eq_nil_of_le (by simpa using hi),List.take_nil]at h
   exact zbP hT hd hK m (i+1) (by rw[List.drop_eq_nil_of_le (by simp;omega),List.take_nil];exact h) hs
  | some o=>
   have hi:i<ops.toList.length:=by simpa using (Array.getElem?_eq_some_iff.1 ho).1
   have hoi:ops.toList[i]=o:=by simpa using (Array.getElem?_eq_some_iff.1 ho).2
   rw[List.drop_eq_getElem_cons hi,List.take_succ_cons,hoi]at h
   have h:gd2 (ZN S (ZW ops o.guard)) (zbd P T X w0 N o (exU P T X w0 N ops ((ops.toList.drop (i+1)).take m) K)) (Qu o.dst (exU P T X w0 N ops ((ops.toList.drop (i+1)).take m) K)) S:=h
   have hg:ZW ops o.guard=o.guard.map fun g=>((ops[g.1]?).bind (·.dst),g.2):=by cases o.guard<;>rfl
   have hyes:ZN S (ZW ops o.guard)=some true∨ZN S (ZW ops o.guard)=some false:=by
    cases hq:ZN S (ZW ops o.guard)with
    |none=>rw[hq]at h;exact h.elim
    |some v=>cases v<;>simp
   rcases J5 hs hd (A:=ZN S (ZW ops o.guard)=some true) (B:=ZN S (ZW ops o.guard)=some false) (by rw[←hg];exact zqJ (hyes.imp (fun h=>⟨h,h⟩) fun h=>⟨h,h⟩))with⟨hw,h1⟩|⟨hw,h1⟩
   ·simp only[hw,if_true]
    rw[h1]at h
    have h:zbd P T X w0 N o (exU P T X w0 N ops ((ops.toList.drop (i+1)).take m) K) S:=h
    unfold zbd at h
    split at h
    ·rename_i hst
     refine Jc (fun c hc=>by rw[hc]at hst;cases hst) ?_
     exact h E a w hs (hd i o ho) _ _ fun S' E' a' w' hk h'=>zbP hT hd hK m (i+1) hk h'
    ·refine Jc (zcN h) ?_
     exact Jm hT h hs (hd i o ho) fun S' E' a' w' h2 h3=>zbP hT hd hK m (i+1) h2 h3
   ·simp only[hw,Bool.false_eq_true,if_false]
    rw[h1]at h
    have h:exU P T X w0 N ops ((ops.toList.drop (i+1)).take m) K ⟨qh S.slots o.dst .no,S.blks,S.arrs⟩:=h
    exact⟨fun _ _=>trivial,zbP hT hd hK m (i+1) h (hs.env .no undef .no o.dst (hd i o ho))⟩
theorem yk {id:Nat} {S:St} {R:St→Prop} {Q:Exit→St→Prop} (hT: ∀t y,T t=some y→q9 P t y) (hN:okN N ops=true) (h:exU P T X w0 N ops ops.toList R S):DW P X w0 N (.region id ops false) (zr R Q) S:=fun E a w hs=>by
 refine wpIn_region ?_
 have:=zbP (Q:=fun e a' w'=>∃S' E',zr R Q e S'∧qv X w0 N S' E' a' w') hT (jN hN) (fun S' E' _ _ hq hs=>⟨S',E',hq,hs⟩) ops.size 0 (by rw[List.drop_zero,List.take_of_length_le (by simp)];exact h) hs
 have e0:(List.range ops.size).map (0+ ·)=List.range ops.size:=by simp
 rw[e0]at this
 exact this
theorem zpQ {F:Fence} {Q:Exit→Act→World→Prop} {listed:Array Bool} {a:Act} {w:World} (hall: ∀j,j<ops.size→listed.getD j false=true) (hq:Q .normal a w): ∀fuel,wpAnyIn F 0 P .any ops Q fuel listed a w:=by
 have hno: ∀i,i∉Region.ready .any ops listed:=fun i hi=>by
  obtain⟨h1,o,ho,_⟩:=mem_ready.1 hi
  have hlt:i<ops.size:=(Array.getElem?_eq_some_iff.1 ho).1
  have h2:=hall i hlt
  rcases Nat.lt_or_ge i listed.size with h3|h3
  ·rw[Array.getD_eq_getD_getElem?,Array.getElem?_eq_getElem h3]at h1 h2
   simp at h1 h2
   rw[h1]at h2
   cases h2
  ·rw[Array.getD_eq_getD_getElem?,Array.getElem?_eq_none h3]at h2;cases h2
 intro fuel
 cases fuel with
 |zero=>exact⟨List.eq_nil_iff_forall_not_mem.2 hno,hq⟩
 |succ fuel=>exact⟨fun _=>hq,fun i hi=>absurd hi (hno i)⟩
theorem zuR {rs:Nat→Ap} {ds ds':Nat→Option Nat} {S0:St} {D:Nat→Bool}: ∀n,(∀j,j<n→ds j=ds' j)→Sq rs ds S0 D n=Sq rs ds' S0 D n
 |0,_=>rfl
 |n+1,h=>by rw[Sq,Sq,zuR n fun j hj=>h j (by omega),h n (by omega)]
def zsG:Op→Bool
 | .defer _=>false
 | _=>true
end
section
variable {P:Program} {X:Fr} {w0:World} {N:Nat} {S:St} {T:Nat→Option Ty} {Q:Exit→St→Prop}
theorem zc {c:Operand} {x y:Code} (hc:ev S c= .c (.f (.s (.bool true)))) (h:DW P X w0 N x Q S):DW P X w0 N (.cond c x y) Q S:=zg hc (fun _=>h) fun h=>by cases h
theorem zb {c:Operand} {x y:Code} (hc:ev S c= .c (.f (.s (.bool false)))) (h:DW P X w0 N y Q S):DW P X w0 N (.cond c x y) Q S:=zg hc (fun h=>by cases h) fun _=>h
theorem zfv {n:Nat} (h:n+1<9223372036854775808):IntKind.i64.wrap ((n:Int)+1)=((n+1:Nat):Int):=by rw[IntKind.wrap_i64];omega
def zi (id tI t2:Nat) (ik:IntKind) (k:Nat) (X:Fr) (I:St→Prop) (Q:Exit→St→Prop):Exit→St→Prop
 | .normal,S=>S.slots tI= .c (.f (.s (.int ik k)))∧I ⟨ja (ja S.slots t2 (.c (.f (.s (.int ik (k+1:Nat)))))) tI (.c (.f (.s (.int ik (k+1:Nat))))),S.blks,S.arrs⟩
 | .exit i,S=>if i=id then Q .normal S else Q (.exit i) S
 |e,S=>Q e S
theorem qc {ι:Type} (n:Nat) (I:Nat→ι→St) (J:Nat→ι→Prop) (x0:ι) {id r1 r2 tI tN tC t2:Nat} {ty ty2 y1 y2 y3:TypeId} {p1 p2 p3:String} {a1 a2 a3:Array Edge} {B:Code}
  (hn:n<9223372036854775807) (hT: ∀t y,T t=some y→q9 P t y) (hN:tC<N∧t2<N∧tI<N)
  (hI: ∀k x,(I k x).slots tI= .c (.f (.s (.int .i64 k)))∧(I k x).slots tN= .c (.f (.s (.int .i64 n))))
  (h0:zY X S (I 0 x0)) (hJ:J 0 x0)
  (hB: ∀k x,J k x→k<n→DW P X w0 N B (zi id tI t2 .i64 k X (fun S'=>∃x',J (k+1) x'∧zY X S' (I (k+1) x')) Q) ⟨ja (I k x).slots tC (.c (.f (.s (.bool true)))),(I k x).blks,(I k x).arrs⟩)
  (hE: ∀x,J n x→Q .normal ⟨ja (I n x).slots tC (.c (.f (.s (.bool false)))),(I n x).blks,(I n x).arrs⟩):
  DW P X w0 N (.block id (.loop (.seq (.region r1 #[⟨some tC,.binOp .lss ty (.tmp tI) (.tmp tN) ty2,y1,p1,a1,none⟩] false) (.seq (.cond (.tmp tC) .skip (.exit id)) (.seq B (.region r2 #[⟨some t2,.binOp .add ty (.tmp tI) (.const (.int .i64 1)) ty2,y2,p2,a2,none⟩,⟨some tI,.move (.tmp t2),y3,p3,a3,none⟩] false)))))) Q S:=by
 have okN1:okN N #[⟨some tC,.binOp .lss ty (.tmp tI) (.tmp tN) ty2,y1,p1,a1,none⟩]=true:=by simp[okN,hN.1]
 have okN2:okN N #[⟨some t2,.binOp .add ty (.tmp tI) (.const (.int .i64 1)) ty2,y2,p2,a2,none⟩,⟨some tI,.move (.tmp t2),y3,p3,a3,none⟩]=true:=by simp[okN,hN.2]
 refine qn ?_
 refine zir (ι:={x:Nat×ι // x.1≤n∧J x.1 x.2}) (fun x=>I x.1.1 x.1.2) (fun x=>n - x.1.1) ⟨(0,x0),Nat.zero_le _,hJ⟩ h0 ?_
 rintro⟨⟨k,x⟩,hk,hJk⟩
 simp only at hk hJk ⊢
 obtain⟨h1,h2⟩:=hI k x
 have hB:=hB k x hJk
 have hE:n=k→Q .normal ⟨ja (I k x).slots tC (.c (.f (.s (.bool false)))),(I k x).blks,(I k x).arrs⟩:=fun e=>by subst e;exact hE x hJk
 generalize I k x=S0 at h1 h2 hB hE
 obtain⟨s,b,ar⟩:=S0
 simp only at h1 h2 hB hE
 refine zjT fun R hR=>?_
 refine yk hT okN1 ?_
 show exU P T X w0 N _ [_] R ⟨s,b,ar⟩
 rw[Yh]
 simp only[ZW,ZN,zbj]
 rw[JJ]
 simp only[stops,jx,qb,ev,h1,h2,bin,if_true,true_and,yv,zeF,qh]
 refine hR _ ?_
 rcases Nat.lt_or_ge k n with hlt|hge
 ·have hc:decide ((k:Int)<(n:Int))=true:=by simpa using hlt
  rw[hc]
  refine zc6 ?_
  refine zc (by simp[ev,ja]) ?_
  refine Qg ?_
  simp only[zr]
  refine zc6 ?_
  refine zb9 (hB hlt) fun e S' hq=>?_
  cases e with
  | normal=>
   obtain⟨q1,x',hJ',hw⟩:=hq
   simp only[zr]
   refine zju ?_
   refine yk hT okN2 ?_
   obtain⟨s',b',ar'⟩:=S'
   simp only at q1 hw
   show exU P T X w0 N _ [_,_] _ ⟨s',b',ar'⟩
   rw[Yh]
   simp only[ZW,ZN,zbj]
   rw[JJ]
   have hwr:(IntKind.i64).wrap ((k:Int)+1)=((k+1:Nat):Int):=by
    have:=zfv (n:=k) (by omega)
    simpa using this
   simp only[stops,jx,qb,ev,q1,cv,bin,if_true,true_and,yv,qh,hwr]
   rw[Yh]
   simp only[ZW,ZN,zbj]
   rw[JJ]
   simp only[stops,jx,qb,ev,true_and,yv,qh,jn,zeF]
   exact⟨⟨(k+1,x'),hlt,hJ'⟩,by simp only;omega,hw⟩
  |exit i=>
   simp only[zi]at hq
   simp only[zr,zd]
   exact hq
  | _=>exact hq
 ·have hc:decide ((k:Int)<(n:Int))=false:=by simpa using hge
  rw[hc]
  refine zc6 ?_
  refine zb (by simp[ev,ja]) ?_
  refine Ql ?_
  simp only[zr,zd,if_true]
  exact hE (by omega)
theorem zW {id r1 r2 tI tN tC t2:Nat} {ty ty2 y1 y2 y3:TypeId} {p1 p2 p3:String} {a1 a2 a3:Array Edge} {B:Code}
  (h:DW P X w0 N (.block id (.loop (.seq (.region r1 #[⟨some tC,.binOp .lss ty (.tmp tI) (.tmp tN) ty2,y1,p1,a1,none⟩] false) (.seq (.cond (.tmp tC) .skip (.exit id)) (.seq B (.region r2 #[⟨some t2,.binOp .add ty (.tmp tI) (.const (.int .i64 1)) ty2,y2,p2,a2,none⟩,⟨some tI,.move (.tmp t2),y3,p3,a3,none⟩] false)))))) Q S):
  DW P X w0 N (.block id (.loop (.seq (.region r1 #[⟨some tC,.binOp .lss ty (.tmp tI) (.tmp tN) ty2,y1,p1,a1,none⟩] false) (.seq (.cond (.tmp tC) .skip (.exit id)) (.seq B (.region r2 #[⟨some t2,.binOp .add ty (.tmp tI) (.const (.int .i64 1)) ty2,y2,p2,a2,none⟩,⟨some tI,.move (.tmp t2),y3,p3,a3,none⟩] false)))))) Q S:=h
end
end
section
section
variable {P:Program} {X:Fr} {w0:World} {N:Nat} {S:St} {T:Nat→Option Ty} {o:Oper} {K:St→Prop}
theorem qv.newArr {E:qN} {a:Act} {w w':World} (hs:qv X w0 N S E a w) (hbel:Below w.heap.size w w') {d:Nat} (hfree:S.arrs d=none) {v:Value} {e:TypeId} {k:Nat} {rows:List (List F)} {ys:List Value} (hown:w'.ownsRow w.heap.size e k v rows.length ys) (hrep:RepFs w' E.I rows.flatten ys) (hk: ∀r∈rows,r.length=k):
  ∃E',E'.L d=some v∧qv X w0 N ⟨S.slots,S.blks,fun b=>if b=d then some (e,k,rows)else S.arrs b⟩ E' a w':=by
 have h:=hs.grow hbel
 have hLd:E.L d=none:=hs.an d hfree
 let E':qN:=⟨E.B,fun b=>if b=d then some v else E.L b,E.I⟩
 have hL: ∀b x,E.L b=some x→E'.L b=some x:=fun b x hb=>by
  show(if b=d then some v else E.L b)=some x
  by_cases hbd:b=d
  ·subst hbd;rw[hLd]at hb;cases hb
  ·rw[if_neg hbd];exact hb
 have hLi: ∀b x,E'.L b=some x→(b=d∧x=v)∨(b≠d∧E.L b=some x):=fun b x hb=>by
  have hb:(if b=d then some v else E.L b)=some x:=hb
  by_cases hbd:b=d
  ·rw[if_pos hbd]at hb;cases hb;exact .inl ⟨hbd,rfl⟩
  ·rw[if_neg hbd]at hb;exact .inr ⟨hbd,hb⟩
 have hlt: ∀b,v.ownBlock=some b→w.heap.size≤b∧b<w'.heap.size:=fun b hb=>hown.lt b hb
 have hle:qN.Le w' w' E E':=⟨fun _ _=>rfl,fun _ h=>h,fun _ _ h=>h,hL⟩
 refine⟨E',if_pos rfl,h.chg,h.fr,h.sz,fun t=>(h.slot t).mono hle,fun t e cs ht=>?_,h.inj,h.bl,fun b e' n' rows' hb=>?_,fun b x g hb hg=>?_,fun b b' x x' g h1 h2 h3 h4=>?_,h.bn,fun b hb=>?_,h.il,h.i0,h.i1,h.kp⟩
 ·obtain⟨b,vs,h1,h2,h3,h4⟩:=h.blk t e cs ht
  exact⟨b,vs,h1,h2,h3.mono hle,h4⟩
 ·have hb:(if b=d then some (e,k,rows)else S.arrs b)=some (e',n',rows'):=hb
  by_cases hbd:b=d
  ·rw[if_pos hbd]at hb;cases hb
   exact⟨v,ys,if_pos hbd,⟨hown.1,hown.2.imp id fun⟨g,cap,cur,h1,_,h3⟩=>⟨g,cap,cur,h1,Nat.zero_le _,h3⟩⟩,hrep,hk,fun g hg=>.inl (Nat.le_trans hs.chg.size (hlt g hg).1)⟩
  ·rw[if_neg hbd]at hb
   obtain⟨v1,us1,q1,q2,q3,q4,q5⟩:=h.arr _ _ _ _ hb
   exact⟨v1,us1,hL _ _ q1,q2,q3,q4,q5⟩
 ·rcases hLi _ _ hb with⟨rfl,rfl⟩|⟨hbd,hb⟩
  ·refine⟨(hlt g hg).2,fun hi=>?_,fun t ht=>?_⟩
   ·have:=hs.il g hi;have:=(hlt g hg).1;omega
   ·have:=(hs.bl t g ht).1;have:=(hlt g hg).1;omega
  ·exact h.al _ _ _ hb hg
 ·rcases hLi _ _ h1 with⟨e1,e2⟩|⟨n1,q1⟩<;>rcases hLi _ _ h2 with⟨e3,e4⟩|⟨n2,q2⟩
  ·exact e1.trans e3.symm
  ·exfalso;have:=(hs.al _ _ _ q2 h4).1;have:=(hlt g (e2▸h3)).1;omega
  ·exfalso;have:=(hs.al _ _ _ q1 h3).1;have:=(hlt g (e4▸h4)).1;omega
  ·exact h.ai b b' x x' g q1 q2 h3 h4
 ·have hb:(if b=d then some (e,k,rows)else S.arrs b)=none:=hb
  show(if b=d then some v else E.L b)=none
  by_cases hbd:b=d
  ·rw[if_pos hbd]at hb;cases hb
  ·rw[if_neg hbd]at hb ⊢;exact h.an b hb
theorem jU {t yt:TypeId} {x:Operand} (hop:o.op= .binOp .eql t x (.const (.slice none 0 0)) yt) (hT: ∀t y,T t=some y→q9 P t y) {y:Ty} (hy:T t=some y) {e k' b:Nat} (he:y.elem=some (e,k',b)) {k:Nat} {rows:List (List F)} (hx:ev S x= .c (.f (.l k rows)))
  (hK: ∀c:Bool,(c=true→rows=[])→K ⟨qh S.slots o.dst (.c (.f (.s (.bool c)))),S.blks,S.arrs⟩):yE P X w0 N o K S:=fun E a w hs hd K' Q h=>by
 have hu:=((hT _ _ hy).elem _ _ _ he).1
 have hx':=hx▸hs.ev x
 generalize hv:a.eval x=u at hx'
 cases hx' with
 | c hx'=>
  cases hx' with
  | f hx'=>
   obtain⟨A,c,rfl,hc,hf⟩:=ym hx'
   have hr:(execOp a.eval o).run P w= .ok (.value (.bool A.isNone)) w:=by
    have h2:=run_eql_slice_nil (P:=P) w t e A rows.length c hu
    obtain⟨dst,op,type,pos,after,guard⟩:=o
    simp only at hop
    subst hop
    exact qm (s:=do eqGuard .eql t x (.const (.slice none 0 0)) (.slice A rows.length c) (.slice none 0 0);binOp .eql t (.slice A rows.length c) (.slice none 0 0)) (by simp only[execOp,hv];rfl) (by rw[eqGuard_at_slice];simp[h2])
   unfold Oper.wp
   rw[hr]
   refine h _ _ _ _ (hK A.isNone fun hn=>?_) (hs.env (.c (.f (.s (.bool A.isNone)))) _ (.c (.f (.s rfl))) o.dst hd)
   rcases Nat.eq_zero_or_pos rows.length with h0|h0
   ·exact List.eq_nil_of_length_eq_zero h0
   ·obtain⟨ad,us,rfl,_⟩:=hf h0
    cases hn
theorem j7 {t:TypeId} (hop:o.op= .buildSlice t 0 #[]) (hT: ∀t y,T t=some y→q9 P t y) {y:Ty} (hy:T t=some y) {e k b:Nat} (he:y.elem=some (e,k,b)) {d:Nat} (hd0:o.dst=some d) (hfree:S.arrs d=none)
  (hK:K ⟨ja S.slots d (.c (.o d)),S.blks,fun c=>if c=d then some (e,k,[])else S.arrs c⟩):yE P X w0 N o K S:=fun E a w hs hd K' Q h=>by
 obtain⟨hu1,hk0,ie,ze,hie,hze,hu2,hbe,hzk⟩:=(hT _ _ hy).elem _ _ _ he
 have hsz:(sizeOf e).run P w= .ok k w:=by simp[sizeOf,typeInfo,hie,hu2]
 have hr:(execOp a.eval o).run P w= .ok (.value (.slice (some ⟨w.heap.size,0,none⟩) 0 0)) (w.alloc (.cells #[] e)):=by
  simp only[execOp,hop]
  simp[Instr.buildSlice,run_underlying hu1,hsz,Instr.fill,newRow]
  rw[show Array.range 0= #[]from Array.eq_empty_of_size_eq_zero (by simp),Array.map_empty]
 unfold Oper.wp
 rw[hr]
 have hbel:Below w.heap.size w (w.alloc (.cells #[] e)):=(Below.refl _ w).alloc (Nat.le_refl _) _
 have hown:(w.alloc (.cells #[] e)).ownsRow w.heap.size e k (.slice (some ⟨w.heap.size,0,none⟩) 0 0) ([]:List (List F)).length []:=⟨by simp,.inr ⟨_,0,#[],rfl,Nat.le_refl _,heap_alloc_new _ _,by simp,by unfold maxLen;omega,by simp,by simp⟩⟩
 obtain⟨E',hL,hs'⟩:=hs.newArr (e:=e) (k:=k) (rows:=[]) hbel hfree hown ⟨rfl,fun j x u hx=>by simp at hx⟩ (fun r hr=>by simp at hr)
 have:=hs'.env (.c (.o d)) (.slice (some ⟨w.heap.size,0,none⟩) 0 0) (.c (.o hL rfl)) o.dst hd
 rw[hd0]at this
 show K' (a.put o.dst _) _
 rw[hd0]
 exact h _ _ _ _ hK this
end
def qE (A:Nat→Option (TypeId×Nat×List (List F))):List (Bool×List C)→List (Bool×List C)→Prop
 |[],[]=>True
 |(b,x)::xs,(c,y)::ys=>b=c∧JX A x y∧qE A xs ys
 | _,_=>False
def qH (A:Nat→Option (TypeId×Nat×List (List F))):V→V→Prop
 | .tup xs,.tup ys=>qE A xs ys
 | .clo f fi ca,.clo f' fi' ca'=>(f=f'∧fi=fi'∧ca=ca')∧zZ (fi++ca)=true
 | .rd xs,.rd ys=>xs=ys
 |x,y=>qz A x y
def qC (T:Nat→Option Ty) (rs:List ResultVar) (res:V) (S:St):Prop:=match zN T S rs with
 |some (p,v)=>p∧qH S.arrs v res
 |none=>False
def qF (T:Nat→Option Ty) (rs:List ResultVar) (res:V):Exit→St→Prop
 | .normal,S=>qC T rs res S
 | .ret,S=>qC T rs res S
 | _,_=>False
section
variable {P:Program} {X:Fr} {w0:World} {N:Nat} {S:St} {T:Nat→Option Ty} {E:qN} {a:Act} {w:World}
theorem zoL (hs:qv X w0 N S E a w): ∀ {xs ys:List (Bool×List C)},qE S.arrs xs ys→xs.length=ys.length∧∀(j:Nat) y u,ys[j]? =some y→(∀x,xs[j]? =some x→RepP w E x u)→RepP w (.pure (zgW S E)) y u
 |[],[],_=>⟨rfl,fun j y u h=>by simp at h⟩
 |[],_::_,h=>by simp[qE]at h
 | _::_,[],h=>by simp[qE]at h
 | (b,x)::xs,(c,y)::ys,h=>by
  obtain⟨rfl,h1,h2⟩:=h
  have ih:=zoL hs h2
  refine⟨by simp[ih.1],fun j z u hz hx=>?_⟩
  match j with
  |j+1=>exact ih.2 j z u (by simpa using hz) fun x h=>hx x (by simpa using h)
  | 0=>
   simp at hz
   subst hz
   have h0:=hx (b,x) rfl
   cases b
   ·obtain⟨z,e,hz⟩:=h0
    subst e
    have:=zck hs (us:=[u]) h1 ⟨rfl,fun j q v hq hv=>by
     match j with
     |0=>simp at hq hv;subst hq;subst hv;exact hz
     |j+1=>simp at hq⟩
    match y,this with
    |[],h=>have:=h.1;simp at this
    |[y],h=>exact⟨y,rfl,h.2 0 y u rfl rfl⟩
    | _::_::_,h=>have:=h.1;simp at this
   ·obtain⟨us,e,hz⟩:=h0
    exact⟨us,e,zck hs h1 hz⟩
theorem zxE (hs:qv X w0 N S E a w) {x y:V} {u:Value} (h:qH S.arrs x y) (hx:qr w E x u):qr w (.pure (zgW S E)) y u:=by
 unfold qH at h
 split at h
 ·cases hx with
  |tup hl hx=>
   obtain⟨h1,h2⟩:=zoL hs h
   exact .tup (by rw[←h1,hl]) fun j y u hy hu=>h2 j y u hy fun x hxx=>hx j x u hxx hu
 ·obtain⟨⟨rfl,rfl,rfl⟩,hn⟩:=h
  have hn:=zeT hn
  have key: ∀ {l:List W} {us:List Value},(∀x∈l,∀t o,x≠ .loc t o)→RepWs w E l us→RepWs w (.pure (zgW S E)) l us:=fun {l us} h hx=>⟨hx.1,fun j x u hj hu=>by
   have h1:=hx.2 j x u hj hu
   have h2:=h x (List.mem_of_getElem? hj)
   cases h1 with
   |f h=>exact .f (h.mono (fun _ _=>rfl) fun _ h=>.inl h)
   |agg h=>exact .agg ⟨h.1,fun j x u hx hu=>(h.2 j x u hx hu).mono (fun _ _=>rfl) fun _ h=>.inl h⟩
   |loc h=>exact absurd rfl (h2 _ _)
   |rd us h1 h4 h3=>exact .rd us (.inl h1) h4 fun j x hj=>(h3 j x hj).mono (fun _ _=>rfl) fun _ h=>.inl h⟩
  cases hx with|clo h1 h2=>exact .clo (key (fun x hx=>hn x (List.mem_append.2 (.inl hx))) h1) (key (fun x hx=>hn x (List.mem_append.2 (.inr hx))) h2)
 ·subst h
  cases hx with|rd us h1 h2 h3=>exact .rd us (.inl h1) h2 fun j x hj=>(h3 j x hj).mono (fun _ _=>rfl) fun _ h=>.inl h
 ·exact zol hs h hx
theorem zh (hT: ∀t y,T t=some y→q9 P t y) {f:FuncId} {fn:Func} {c:Code} {args:List V} {res:V} (rs:List ResultVar) (hf:P.funcs[f]? =some fn) (hb:fn.body=some c) (hn:(fn.name== "runtime.NumGoroutine")=false) (hargs:args.length≤fn.ntmps) (hrs:fn.results.toList=rs)
  (h: ∀I0 w0,DW P (Fr.pure I0) w0 fn.ntmps c (qF T rs res) ⟨fun t=>lkA t args,fun t=>YX t [],zbl⟩):zu P f args res:=by
 subst hrs
 refine⟨⟨fn,hf,by simp[hb],hn⟩,fun w us I hI hl hv=>?_⟩
 have hs:qv (Fr.pure I) w fn.ntmps ⟨fun t=>lkA t args,fun t=>YX t [],zbl⟩ (.pure I) {tmps:=us++Array.replicate (fn.ntmps - us.size) undef,defers:=[]} w:=by
  refine⟨yi.refl _ _,Frk.none rfl,by simp;omega,fun t=>?_,fun t e cs h=>(by cases h),fun t t' b h=>(by cases h),fun t b h=>(by cases h),fun a e k rows h=>(by cases h),fun a v b h=>(by cases h),fun a a' v v' b h=>(by cases h),fun _ _=>rfl,fun _ _=>rfl,hI,fun _ h=>h,fun _ h=>.inl h,fun _ h=>nomatch h⟩
  simp only[lkA]
  rcases Nat.lt_or_ge t args.length with ht|ht
  ·rw[List.getD_eq_getElem?_getD,List.getElem?_eq_getElem ht,Array.getD_eq_getD_getElem?,Array.getElem?_append_left (by omega),Array.getElem?_eq_getElem (by omega)]
   exact hv t _ _ (List.getElem?_eq_getElem ht) (Array.getElem?_eq_getElem (by omega))
  ·rw[List.getD_eq_getElem?_getD,List.getElem?_eq_none ht]
   exact .un
 refine zcT hf hb rfl (h _ w _ _ w hs) (fun e S' E' a' w' hq hs' _=>?_) fun e S' hq=>by cases e<;>first|exact .inl rfl|exact .inr rfl|exact hq.elim
 have key:qC T fn.results.toList res S'→∃v,(results fn a'.tmps).run P w'= .ok v w'∧∃u I',Ending.returned v= .returned u∧qr w' (.pure I') res u∧Below w.heap.size w w'∧(∀b,I b→I' b)∧∀b,I' b→I b∨(w.heap.size≤b∧b<w'.heap.size):=fun hret=>by
  unfold qC at hret
  split at hret
  ·rename_i p v hrv
   obtain⟨u,h1,h2⟩:=zpN hT hs' hrv hret.1
   refine⟨u,h2,u,zgW S' E',rfl,zxE hs' hret.2 h1,hs'.chg.below (fun _ h=>h.elim) (Nat.le_refl _),fun b hb=>.inl (hs'.i0 b hb),fun b hb=>?_⟩
   rcases hb with hb|⟨c,v,hL,hv⟩
   ·exact(hs'.i1 b hb).imp id fun h=>⟨h.resolve_right fun h=>h,hs'.il b hb⟩
   ·refine .inr ⟨?_,(hs'.al c v b hL hv).1⟩
    cases hq:S'.arrs c with
    |none=>rw[hs'.an c hq]at hL;cases hL
    |some y=>
     obtain⟨v',us',r1,r2,r3,r4,r5⟩:=hs'.arr c y.1 y.2.1 y.2.2 hq
     rw[hL]at r1;cases r1
     exact(r5 b hv).resolve_right fun h=>h
  ·exact hret.elim
 cases e with
 |normal=>exact⟨.inl rfl,key hq⟩
 |ret=>exact⟨.inr rfl,key hq⟩
 | _=>exact hq.elim
end
end
end Go.Dl
