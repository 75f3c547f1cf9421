import Derived.Test.YtbcbnfiedgnfpaaGreatZ08
set_option linter.unusedSimpArgs false
set_option linter.unusedVariables false
set_option maxRecDepth 100000
set_option maxHeartbeats 2000000
namespace Go.Dl
section
section
variable {P:Program} {T:Nat→Option Ty} {X:Fr} {w0:World} {N:Nat} {S:St} {ops:Array Oper} {R:St→Prop} {fuel:Nat} {listed:Array Bool}
theorem zc1 (j:Nat) (v':V) (h: ∀(E:qN) (w:World) (u:Value),(∀t,t∈X.B0→E.B t=some (X.G t))→qr w E (S.slots j) u→qr w E v' u):zY X S ⟨ja S.slots j v',S.blks,S.arrs⟩:=fun w0 N E a w hs=>
 ⟨E,hs.retmp hs.sz fun t=>by
  by_cases e:t=j
  ·subst e;rw[jn];exact h E w _ hs.kp (hs.slot t)
  ·rw[zbx _ _ e];exact hs.slot t⟩
abbrev pV (b off:Nat):F:=.s (.pointer (some ⟨b,off,none⟩))
theorem zb6 (j t b off:Nat) (hs:S.slots j= .loc t off) (ht:t∈X.B0) (hb:X.G t=b):zY X S ⟨ja S.slots j (.c (.f (pV b off))),S.blks,S.arrs⟩:=zc1 j _ fun E w u hk hr=>by
 rw[hs]at hr
 cases hr with
 |loc h=>rw[hk t ht,hb]at h;cases h;exact .c (.f (.s rfl))
theorem qe (j t b off:Nat) (hs:S.slots j= .c (.f (pV b off))) (ht:t∈X.B0) (hb:X.G t=b):zY X S ⟨ja S.slots j (.loc t off),S.blks,S.arrs⟩:=zc1 j _ fun E w u hk hr=>by
 rw[hs]at hr
 cases hr with
 | c h=>cases h with
  |f h=>cases h with
   |s h=>exact .loc (by rw[hk t ht,hb])
theorem zlz (j t b off:Nat) {f:FuncId} (hs:S.slots j= .clo f [.f (pV b off)] []) (ht:t∈X.B0) (hb:X.G t=b):zY X S ⟨ja S.slots j (.clo f [.loc t off] []),S.blks,S.arrs⟩:=zc1 j _ fun E w u hk hr=>by
 rw[hs]at hr
 cases hr with
 | clo h1 h2=>
  refine .clo ⟨h1.1,fun i x u hx hu=>?_⟩ h2
  match i with
  | 0=>
   cases hx
   have h3:=h1.2 0 _ u rfl hu
   cases h3 with
   |f h=>cases h with
    |s _=>exact .loc (by rw[hk t ht,hb])
  |i+1=>cases hx
def yJ (P:Program) (T:Nat→Option Ty) (X:Fr) (w0:World) (N:Nat) (ops:Array Oper) (R:St→Prop) (fuel:Nat) (listed:Array Bool) (S:St):List Nat→Prop
 |[]=>True
 |i::l=>(match ops[i]? with
  |some o=>o.guard=none∧zbd P T X w0 N o (YQ P X w0 N ops R fuel (listed.setIfInBounds i true)) S
  |none=>False)∧yJ P T X w0 N ops R fuel listed S l
theorem zl6: ∀ {l:List Nat},yJ P T X w0 N ops R fuel listed S l→∀i∈l,∃o,ops[i]? =some o∧o.guard=none∧zbd P T X w0 N o (YQ P X w0 N ops R fuel (listed.setIfInBounds i true)) S
 | j::l,h,i,hi=>by
  rcases List.mem_cons.1 hi with e|e
  ·subst e
   have h1:=h.1
   cases ho:ops[i]? with
   |none=>rw[ho]at h1;exact h1.elim
   |some o=>rw[ho]at h1;exact⟨o,rfl,h1⟩
  ·exact zl6 h.2 i e
theorem zX (rs:List Nat) (hT: ∀t y,T t=some y→q9 P t y) (hN:okN N ops=true) (hr:Region.ready .any ops listed=rs) (hne:rs≠[]) (h:yJ P T X w0 N ops R fuel listed S rs):YQ P X w0 N ops R (fuel+1) listed S:=fun E a w hs=>by
 refine⟨fun e=>absurd (hr.symm.trans e) hne,fun i hi=>?_⟩
 rw[hr]at hi
 obtain⟨o,ho,hg,he⟩:=zl6 h i hi
 unfold wpOpIn
 rw[ho]
 simp only
 rw[if_pos (jL hg a)]
 unfold zbd at he
 split at he
 ·rename_i hst
  refine Jc (fun c hc=>by rw[hc]at hst;cases hst) ?_
  exact he E a w hs (jN hN i o ho) _ _ fun S' E' a' w' h1 h2=>h1 E' a' w' h2
 ·exact Jc (zcN he) (Jm hT he hs (jN hN i o ho) fun S' E' a' w' h1 h2=>h1 E' a' w' h2)
end
end
end Go.Dl
namespace Go.Dl
open Go.Ed Go.RowKit
section
inductive Cm {α:Type}:Sem α→Prop
 |pure (a:α):Cm (.pure a)
 |load (m:Mode) (a:Addr) (k:Value→Sem α) (h: ∀v,Cm (k v)):Cm (.load m a k)
 |shape (r:Nat) (k:Option (TypeId×Nat)→Sem α) (h: ∀v,Cm (k v)):Cm (.shape r k)
 |program (k:Program→Sem α) (h: ∀v,Cm (k v)):Cm (.program k)
 |obj (r:Nat) (k:Obj→Sem α) (h: ∀v,Cm (k v)):Cm (.getObj r k)
 |halt (e:Halt):Cm (.halt e)
theorem Cm.run {α:Type} {P:Program} {x:Sem α} (h:Cm x): ∀ {w:World} {v:α} {w':World},x.run P w= .ok v w'→w'=w:=by
 induction h with
 |pure a=>intro w v w' e;cases e;rfl
 | load m a k h ih=>
  intro w v w' e
  unfold Sem.run at e
  split at e
  ·exact ih _ e
  ·split at e
   ·exact ih _ e
   ·cases e
 |shape r k h ih=>intro w v w' e;exact ih _ e
 |program k h ih=>intro w v w' e;exact ih _ e
 |obj r k h ih=>
  intro w v w' e
  unfold Sem.run at e
  split at e
  ·cases e
  ·exact ih _ e
  ·cases e
 |halt e0=>intro w v w' e;cases e
theorem Cm.bind' {α β:Type} {x:Sem α} {f:α→Sem β} (h:Cm x) (hf: ∀a,Cm (f a)):Cm (x.bind f):=by
 induction h with
 |pure a=>exact hf a
 |load m a k h ih=>exact .load m a _ ih
 |shape r k h ih=>exact .shape r _ ih
 |program k h ih=>exact .program _ ih
 |obj r k h ih=>exact .obj r _ ih
 |halt e=>exact .halt e
theorem Cm.bind {α β:Type} {x:Sem α} {f:α→Sem β} (h:Cm x) (hf: ∀a,Cm (f a)):Cm (x >>=f):=Cm.bind' h hf
theorem Cm.ret {α:Type} (a:α):Cm (Pure.pure a:Sem α):=.pure a
theorem Cm.stuck {α:Type} (s:String):Cm (Go.stuck s:Sem α):=.halt _
theorem Cm.unsup {α:Type} (s:Unsupported):Cm (Go.unsupported s:Sem α):=.halt _
theorem Cm.prog:Cm Go.program:=.program _ fun _=>.pure _
theorem Cm.load1 (a:Addr):Cm (Go.load a):=.load _ _ _ fun _=>.pure _
theorem Cm.typeInfo (t:TypeId):Cm (Go.typeInfo t):=by
 unfold Go.typeInfo
 refine .bind .prog fun p=>?_
 split
 ·exact .ret _
 ·exact .stuck _
theorem Cm.under (t:TypeId):Cm (Go.underlying t):=by
 unfold Go.underlying
 refine .bind .prog fun p=>?_
 split
 ·exact .ret _
 ·exact .stuck _
theorem Cm.isAgg (t:TypeId):Cm (Go.isAgg t):=by
 unfold Go.isAgg
 refine .bind (.under _) fun p=>?_
 split<;>exact .ret _
theorem Cm.size (t:TypeId):Cm (Go.sizeOf t):=.bind (.typeInfo _) fun _=>.ret _
theorem Cm.sure (v:Value):Cm (Instr.sureAddr v):=by
 unfold Instr.sureAddr
 split
 ·exact .ret _
 ·exact .stuck _
theorem Cm.cells (a:Addr): ∀(n i:Nat) (acc:Array Value),Cm (loadCellsFrom a i n acc)
 |0,i,acc=>.ret _
 |n+1,i,acc=>.bind (.load1 _) fun v=>Cm.cells a n (i+1) _
theorem Cm.loadAt (t:TypeId) (v:Value):Cm (Instr.loadAt t v):=by
 refine .bind (.sure _) fun a=>.bind (.isAgg _) fun b=>?_
 split
 ·exact .bind (.size _) fun n=>.bind (.cells _ _ _ _) fun _=>.ret _
 ·exact .load1 _
theorem Cm.part (t:TypeId) (cs:Array Value) (o:Nat):Cm (Go.part t cs o):=by
 refine .bind (.isAgg _) fun b=>?_
 split
 ·exact .bind (.size _) fun n=>.ret _
 ·split
  ·exact .ret _
  ·exact .stuck _
theorem Cm.blind: ∀(l:List FieldStep) (t:TypeId) (x:Option Value),Cm (followBlind l t x)
 |[],t,x=>.ret _
 | s::rest,t,x=>by
  unfold followBlind
  refine .bind (.under _) fun d=>?_
  split
  ·split
   ·split
    ·exact .ret _
    ·exact Cm.blind ..
    ·exact .stuck _
    ·exact .ret _
    ·exact .bind (.part _ _ _) fun _=>Cm.blind ..
    ·exact .stuck _
    ·exact Cm.blind ..
   ·exact .stuck _
  ·exact .stuck _
theorem Cm.ahead: ∀(n:Nat) (t:TypeId) (v:Value) (s:String),Cm (nilAhead n t v s)
 |0,_,_,_=>.ret _
 | n +1,t,v,s=>by
  unfold nilAhead
  refine .bind (.typeInfo _) fun i=>?_
  split
  ·refine .bind (.blind _ _ _) fun r=>?_
   split
   ·exact .ret _
   ·split
    ·exact Cm.ahead ..
    ·exact .ret _
    ·exact .stuck _
    ·exact .ret _
    ·exact .ret _
    ·refine .bind (.under _) fun d=>?_
     split<;>exact .ret _
  ·exact .stuck _
def zex:Op→Bool
 | .move _=>true
 | .assign _=>true
 | .load .. =>true
 | .nilCheck _=>true
 | .fieldAddr .. =>true
 | .extract .. =>true
 | _=>false
theorem Cm.panic {α:Type}:Cm (Go.runtimePanic .nilDeref:Sem α):=.bind .prog fun p=>.halt _
theorem zrb (a:Addr) (n m:Nat):Cm (Go.partAt a n m):=by
 unfold Go.partAt Go.byteOf
 simp only[pure_bind,bind_assoc]
 repeat'(first|exact .ret _|exact .stuck _|exact .prog|exact .shape _ _ fun _=>.pure _|exact .obj _ _ fun _=>.pure _|exact .unsup _|(refine .bind ?_ fun _=>?_)|split|(intro;dsimp only))
theorem zp4 {P:Program} {o:Oper} (h:zex o.op=true) {ρ:Operand→Value} {w w':World} {x:Next} (hr:(execOp ρ o).run P w= .ok x w'):w'=w∧∃v,x= .value v:=by
 have vv: ∀ {s:Sem Value},Cm s→∀ {x:Next},(do let v←s;Pure.pure (Next.value v):Sem Next).run P w= .ok x w'→w'=w∧∃v,x= .value v:=fun {s} hc {x} he=>by
  refine⟨(Cm.bind hc fun _=>.ret _).run he,?_⟩
  rw[Sem.run_bind]at he
  cases hq:s.run P w with
  |ok v w2=>rw[hq]at he;cases he;exact⟨_,rfl⟩
  |halt e w2=>rw[hq]at he;cases he
 obtain⟨dst,op,type,pos,after,guard⟩:=o
 cases op with
 |move x=>cases hr;exact⟨rfl,_,rfl⟩
 |assign x=>cases hr;exact⟨rfl,_,rfl⟩
 |load t a=>exact vv (.loadAt _ _) hr
 | nilCheck x=>
  have hc:Cm (execOp ρ ⟨dst,.nilCheck x,type,pos,after,guard⟩):=by
   unfold execOp
   simp only
   split
   ·exact .panic
   ·exact .panic
   ·exact .panic
   ·split
    ·exact .panic
    ·refine .bind .prog fun p=>.bind (.ahead _ _ _ _) fun b=>?_
     split
     ·exact .bind (.unsup _) fun _=>.ret _
     ·exact .ret _
    ·exact .ret _
   ·exact .ret _
  refine⟨hc.run hr,?_⟩
  simp only[execOp]at hr
  split at hr
  ·simp[Go.runtimePanic,go_sem]at hr
  ·simp[Go.runtimePanic,go_sem]at hr
  ·simp[Go.runtimePanic,go_sem]at hr
  ·split at hr
   ·simp[Go.runtimePanic,go_sem]at hr
   ·rw[Sem.run_bind]at hr
    simp only[run_program,Result.andThen_ok]at hr
    rw[Sem.run_bind]at hr
    generalize (nilAhead _ _ _ _).run P w=r at hr
    cases r with
    |ok b w3=>
     simp only[Result.andThen_ok]at hr
     split at hr
     ·cases hr
     ·cases hr;exact⟨_,rfl⟩
    |halt e w3=>cases hr
   ·cases hr;exact⟨_,rfl⟩
  ·cases hr;exact⟨_,rfl⟩
 | fieldAddr t x f=>
  refine vv ?_ hr
  unfold Instr.fieldAt
  refine .bind (.under _) fun d=>?_
  split
  ·split
   ·refine .bind (.sure _) fun a=>.bind ?_ fun _=>.ret _
    unfold fieldPlace
    refine .bind (.size _) fun n=>?_
    split
    ·exact zrb ..
    ·exact .ret _
   ·exact .stuck _
  ·exact .stuck _
 | extract t i=>
  refine vv ?_ hr
  unfold Instr.extract
  split
  ·split
   ·exact .ret _
   ·exact .stuck _
  ·exact .stuck _
 | _=>cases h
section
variable {P:Program} {T:Nat→Option Ty} {X:Fr} {w0:World} {N:Nat} {S:St} {ops:Array Oper} {R:St→Prop} {fuel:Nat} {listed:Array Bool}
def Yd (P:Program) (o:Oper) (al:Bool) (u:Value) (a:Act) (w:World):Prop:=(∀w',(w'=w∨(al=true∧Below w.heap.size w w'))→(execOp a.eval o).run P w'= .ok (.value u) w')∧∀w,o.about P w a.eval=none
def zko:Op→Bool
 | .alloc _=>true
 | _=>false
theorem zrH {ds:List Nat} {F:Fence} {n:Nat} {Q:Exit→Act→World→Prop} {md:Region.Mode} {i:Nat} {oi:Oper} {u:Value} {al:Bool} (hro:F.round=none) (hi:ops[i]? =some oi) (hgi:oi.guard=none) (hsi: ∀cs b,oi.op≠ .select cs b)
  (hQ: ∀c a w,Q (.panic c) (a.put oi.dst u) w→Q (.panic c) a w)
  (hnew: ∀(j:Nat) oj,ops[j]? =some oj→zko oj.op=true→∀(ρ:Operand→Value) (w w':World) (x:Next),(execOp ρ oj).run P w= .ok x w'→Below w.heap.size w w'∧∃v,x= .value v)
  (hds: ∀j,j∈ds→∃oj,ops[j]? =some oj∧∃e,e∈oj.after∧Region.binds md e=true∧(e.on=i∨e.on∈ds)): ∀(fuel:Nat) (listed:Array Bool) (a:Act) (w:World),
   (∀j oj,ops[j]? =some oj→j≠i→listed.getD j true=false→j∉ds→oi.apart ops oj=true∧oj.guard=none∧(zex oj.op=true∨(al=true∧zko oj.op=true)))→(∀j,j∈ds→listed.getD j true=false)→
   i∈Region.ready md ops listed→Yd P oi al u a w→
   wpAnyIn F n P md ops Q fuel (listed.setIfInBounds i true) (a.put oi.dst u) w→wpAnyIn F n P md ops Q (fuel+1) listed a w:=by
 have now: ∀ {K:Act→World→Prop} {a:Act} {w:World},Yd P oi al u a w→K (a.put oi.dst u) w→wpOpIn F n P ops Q i K a w:=fun {K a w} hy h=>by
  unfold wpOpIn
  rw[hi]
  simp only
  rw[if_pos (jL hgi a)]
  refine⟨fun f hf=>(by rw[hy.2 w]at hf;cases hf),?_⟩
  rw[hro,Oper.semAt_none,hy.1 w (.inl rfl)]
  exact h
 intro fuel
 induction fuel with
 | zero=>
  intro listed a w _ _ hr hy H
  refine⟨fun h=>(by rw[h]at hr;cases hr),fun j hj=>?_⟩
  by_cases hji:j=i
  ·subst hji;exact now hy H
  ·have:=ready_mono hj hji
   rw[H.1]at this
   cases this
 | succ fuel ih=>
  intro listed a w hfree hdl hr hy H
  refine⟨fun h=>(by rw[h]at hr;cases hr),fun j hj=>?_⟩
  by_cases hji:j=i
  ·subst hji;exact now hy H
  ·have h1:=H.2 j (ready_mono hj hji)
   obtain⟨hjun,oj,hoj,hall⟩:=mem_ready.1 hj
   have hgd: ∀k,listed.getD k true=listed.getD k false∨listed.size≤k:=fun k=>by
    rcases Nat.lt_or_ge k listed.size with h|h
    ·left;simp[Array.getD,h]
    ·exact .inr h
   have hi0: ∀e∈oj.after,Region.binds md e=true→e.on≠i∧e.on∉ds:=fun e he hb=>by
    have h1:=hall e he hb
    refine⟨fun heq=>?_,fun hm=>?_⟩
    ·have h0:=(mem_ready.1 hr).1
     rw[heq]at h1
     rcases Nat.lt_or_ge i listed.size with h'|h'
     ·simp[h']at h0 h1;rw[h0]at h1;cases h1
     ·simp[Array.getElem?_eq_none h']at h1
    ·have h2:=hdl _ hm
     rcases hgd e.on with h|h
     ·rw[h,h1]at h2;cases h2
     ·rw[Array.getD_eq_getD_getElem?,Array.getElem?_eq_none h]at h1;cases h1
   have hnot:j∉ds:=fun hm=>by
    obtain⟨oj',h1,e,h2,h3,h4⟩:=hds j hm
    rw[hoj]at h1;cases h1
    rcases h4 with h4|h4
    ·exact(hi0 e h2 h3).1 h4
    ·exact(hi0 e h2 h3).2 h4
   obtain⟨hap,hgj,hqj⟩:=hfree j oj hoj hji hjun hnot
   obtain⟨p1,p2,p3⟩:=Oper.apart_spec hap
   have hfree': ∀k ok,ops[k]? =some ok→k≠i→(listed.setIfInBounds j true).getD k true=false→
     k∉ds→oi.apart ops ok=true∧ok.guard=none∧(zex ok.op=true∨(al=true∧zko ok.op=true)):=fun k ok hk hki hun hno=>by
    refine hfree k ok hk hki ?_ hno
    by_cases hjk:j=k
    ·subst hjk;exact hjun
    ·rw[getD_set_ne true hjk]at hun;exact hun
   have hdl': ∀k,k∈ds→(listed.setIfInBounds j true).getD k true=false:=fun k hk=>by
    have hne:j≠k:=fun e=>hnot (by rw[e];exact hk)
    rw[getD_set_ne true hne];exact hdl k hk
   have next: ∀(v:Value) (w':World),(w'=w∨(al=true∧Below w.heap.size w w'))→wpAnyIn F n P md ops Q fuel ((listed.setIfInBounds i true).setIfInBounds j true) ((a.put oi.dst u).put oj.dst v) w'→wpAnyIn F n P md ops Q (fuel+1) (listed.setIfInBounds j true) (a.put oj.dst v) w':=fun v w' hw' h3=>by
    refine ih (listed.setIfInBounds j true) _ w' hfree' hdl' (ready_mono hr (Ne.symm hji)) ⟨fun w2 h2=>?_,fun w2=>?_⟩ ?_
    ·rw[execOp_put oi hsi a oj.dst v p3]
     refine hy.1 w2 ?_
     rcases hw' with rfl|⟨h4,h5⟩
     ·exact h2
     ·rcases h2 with rfl|⟨h6,h7⟩
      ·exact .inr ⟨h4,h5⟩
      ·exact .inr ⟨h4,h5.trans (h7.mono h5.size)⟩
    ·rw[about_put oi w2 a oj.dst v p3];exact hy.2 w2
    ·rw[Array.setIfInBounds_comm _ _ hji,←Act.put_comm a u v p2]
     exact h3
   have hsj: ∀cs b,oj.op≠ .select cs b:=fun cs b e=>by
    rcases hqj with h|h
    ·rw[e]at h;cases h
    ·rw[e]at h;cases h.2
   unfold wpOpIn at h1 ⊢
   rw[hoj]at h1 ⊢
   simp only at h1 ⊢
   rw[if_pos (jL hgj _)]at h1 ⊢
   unfold Oper.wpIn at h1 ⊢
   rw[about_put oj w a oi.dst u p1]at h1
   refine⟨h1.1,?_⟩
   have h1:=h1.2
   rw[hro,Oper.semAt_none,execOp_put oj hsj a oi.dst u p1]at h1
   rw[hro,Oper.semAt_none]
   cases hq:(execOp a.eval oj).run P w with
   | ok x w'=>
    rw[hq]at h1
    have hx:(w'=w∨(al=true∧Below w.heap.size w w'))∧∃v,x= .value v:=by
     rcases hqj with h|⟨h,h'⟩
     ·obtain⟨e1,e2⟩:=zp4 h hq
      exact⟨.inl e1,e2⟩
     ·obtain⟨e1,e2⟩:=hnew j oj hoj h' _ _ _ _ hq
      exact⟨.inr ⟨h,e1⟩,e2⟩
    obtain⟨hw',v,rfl⟩:=hx
    exact next v w' hw' h1
   |halt x w'=>
    rw[hq]at h1
    cases x<;>simp only[Oper.uponIn]at h1 ⊢
    case panic c=>exact hQ _ _ _ h1
def ztd (ops:Array Oper) (i:Nat):List Nat:=(List.range ops.size).foldl (fun acc j=>match ops[j]? with
 |some oj=>if oj.after.toList.any (fun e=>Region.binds .any e&&(e.on==i||acc.contains e.on))then j::acc else acc
 |none=>acc) []
def zBs:Op→Bool
 | .load .. =>true
 | .extract .. =>true
 | _=>false
def zyM (ops:Array Oper) (listed:Array Bool) (i:Nat) (al:Bool):Bool:=match ops[i]? with
  | some oi=>oi.guard.isNone&&zBs oi.op&&(Region.ready .any ops listed).contains i&&
    (let ds:=ztd ops i
     ds.all (fun j=>!listed.getD j true&&match ops[j]? with
       |some oj=>oj.after.toList.any fun e=>Region.binds .any e&&(e.on==i||ds.contains e.on)
       |none=>false)&&
     (List.range ops.size).all fun j=>j==i||listed.getD j true||ds.contains j||(match ops[j]? with
       |some oj=>oi.apart ops oj&&oj.guard.isNone&&(zex oj.op||(al&&zko oj.op))
       |none=>true))
  |none=>false
def zna:C→Bool
 | .f (.s _)=>true
 | _=>false
def scl:V→Bool
 | .c x=>zna x
 | .agg xs=>xs.all zna
 | _=>false
theorem zzf {w w':World} {E E':qN} {v:V} {u u':Value} (h:scl v=true) (h1:qr w E v u) (h2:qr w' E' v u'):u'=u:=by
 have one: ∀ {x:C} {u u':Value},zna x=true→Qm w E x u→Qm w' E' x u'→u'=u:=fun {x u u'} h h1 h2=>by
  cases h1 with
  | f h1=>cases h1 with
   | s _=>cases h2 with
    |f h2=>cases h2 with
     |s _=>rfl
   | _=>cases h
  | _=>cases h
 cases h1 with
 |c h1=>cases h2 with
  |c h2=>exact one h h1 h2
 | agg h1=>cases h2 with
  | agg h2=>
   rename_i xs us us'
   congr 1
   refine Array.ext' (List.ext_getElem? fun j=>?_)
   cases hx:xs[j]? with
   |none=>
    have:=List.getElem?_eq_none_iff.1 hx
    rw[List.getElem?_eq_none (by rw[←h2.1];exact this),List.getElem?_eq_none (by rw[←h1.1];exact this)]
   |some x=>
    have hj:=(List.getElem?_eq_some_iff.1 hx).1
    have e1:=List.getElem?_eq_getElem (l:=us.toList) (i:=j) (by rw[←h1.1];exact hj)
    have e2:=List.getElem?_eq_getElem (l:=us'.toList) (i:=j) (by rw[←h2.1];exact hj)
    rw[e1,e2]
    exact congrArg some (one (List.all_eq_true.1 h x (List.mem_of_getElem? hx)) (h1.2 j _ _ hx e1) (h2.2 j _ _ hx e2))
 | _=>cases h
theorem zwt {P:Program} {o:Oper} (h:zko o.op=true) {ρ:Operand→Value} {w w':World} {x:Next} (hr:(execOp ρ o).run P w= .ok x w'):Below w.heap.size w w'∧∃v,x= .value v:=by
 obtain⟨dst,op,type,pos,after,guard⟩:=o
 cases op with
 | alloc t=>
  simp only[execOp,Instr.alloc,Go.zeroValue,Go.typeInfo,Go.newVar,Go.newRow,Sem.run_bind,run_program,Result.andThen_ok]at hr
  cases hq:P.info? t with
  |none=>rw[hq]at hr;simp[go_sem]at hr
  | some i=>
   rw[hq]at hr
   simp only[Sem.run_pure,Result.andThen_ok]at hr
   cases hz:i.zero with
   |none=>rw[hz]at hr;simp[go_sem]at hr
   |some z=>
    rw[hz]at hr
    simp only[Sem.run_pure,Sem.run_bind,Result.andThen_ok,run_newObj]at hr
    cases hr
    exact⟨(Below.refl _ w).alloc (Nat.le_refl _) _,_,rfl⟩
 | _=>cases h
theorem zrW {op:Op} (hf:zBs op=true) {p:Prop} {r:Res} {rn:List Nat} (he:qb P T S op=some (p,r,rn)): ∃v,r= .put v:=by
 cases op with
 |load t x=>
  rw[qb]at he
  (repeat' split at he)<;>first|(cases he;exact⟨_,rfl⟩)|cases he
 |extract x i=>
  rw[qb]at he
  (repeat' split at he)<;>first|(cases he;exact⟨_,rfl⟩)|cases he
 | _=>cases hf
theorem qS {S':St} (hw:zY X S S') (h:YQ P X w0 N ops R fuel listed S'):YQ P X w0 N ops R fuel listed S:=fun E a w hs=>by
 obtain⟨E',hs'⟩:=hw _ _ _ _ _ hs
 exact h E' a w hs'
theorem zfo (i:Nat) (al:Bool) {o:Oper} (hX:X.rd=none) (hT: ∀t y,T t=some y→q9 P t y) (hN:okN N ops=true) (ho:ops[i]? =some o) (hok:zyM ops listed i al=true)
  (h:jx P T o.dst o.op (fun S'=>(al=true→∃d,o.dst=some d∧scl (S'.slots d)=true)∧YQ P X w0 N ops R fuel (listed.setIfInBounds i true) S') S):YQ P X w0 N ops R (fuel+1) listed S:=fun E a w hs=>by
 unfold zyM at hok
 rw[ho]at hok
 simp only[Bool.and_eq_true]at hok
 obtain⟨⟨⟨hg,hl⟩,hr⟩,hds,hall⟩:=hok
 have hg:o.guard=none:=by simpa using hg
 have key: ∃p v rn,qb P T S o.op=some (p,.put v,rn):=by
  unfold jx at h
  cases he:qb P T S o.op with
  |none=>rw[he]at h;exact h.elim
  |some q=>
   obtain⟨p,r,rn⟩:=q
   obtain⟨v,rfl⟩:=zrW hl he
   exact⟨p,v,rn,rfl⟩
 obtain⟨p,v,rn,he⟩:=key
 unfold jx at h
 rw[he]at h
 simp only at h
 obtain⟨u,h1,h2⟩:=zeS hT he h.1 hs o rfl
 obtain⟨hsc,hnext⟩:=yv.1 h.2
 have hro:(rdF X.rd).round=none:=hX
 have hns: ∀cs b,o.op≠ .select cs b:=fun cs b e=>by rw[e]at hl;cases hl
 refine zrH (ds:=ztd ops i) (u:=u) (al:=al) hro ho hg hns (fun c a w hq=>by cases hq.1) (fun j oj _ hn ρ w w' x hx=>zwt hn hx) (fun j hj=>?_) fuel listed a w (fun j oj hj hji hlj hjd=>?_) (fun j hj=>?_) (by simpa using hr) ⟨fun w' hw'=>?_,fun w=>?_⟩ ?_
 ·have h3:=List.all_eq_true.1 hds j hj
  simp only[Bool.and_eq_true]at h3
  have h4:=h3.2
  split at h4
  ·rename_i oj hoj
   obtain⟨e,h5,h6⟩:=List.any_eq_true.1 h4
   simp only[Bool.and_eq_true,Bool.or_eq_true,beq_iff_eq,List.contains_iff_mem]at h6
   exact⟨oj,hoj,e,by simpa using h5,h6.1,h6.2⟩
  ·cases h4
 ·have hjl:j<ops.size:=(Array.getElem?_eq_some_iff.1 hj).1
  have h3:=List.all_eq_true.1 hall j (List.mem_range.2 hjl)
  simp only[Bool.or_eq_true,beq_iff_eq,List.contains_iff_mem,hlj,Bool.false_eq_true]at h3
  rcases h3 with((h3|h3)|h3)|h3
  ·exact absurd h3 hji
  ·exact h3.elim
  ·exact absurd h3 hjd
  ·rw[hj]at h3
   simp only[Bool.and_eq_true,Bool.or_eq_true]at h3
   exact⟨h3.1.1,by simpa using h3.1.2,h3.2⟩
 ·have h3:=List.all_eq_true.1 hds j hj
  simp only[Bool.and_eq_true,Bool.not_eq_true']at h3
  exact h3.1
 ·rcases hw' with rfl|⟨ha,hb⟩
  ·exact h2
  ·obtain⟨d,hd,hsc⟩:=hsc ha
   have hs2:qv X w0 N S E a w':=hs.turn (ds:=a.defers) hb.size (hs.chg.trans (yi.of_below hb X.X)) (hs.fr.below hb) fun b hb'=>hb.block b (by
    rcases hb' with hb'|⟨o,ho,_⟩
    ·exact hs.il b hb'
    ·exact(Array.getElem?_eq_some_iff.1 ho).1)
   obtain⟨u',h3,h4⟩:=zeS hT he h.1 hs2 o rfl
   rw[hd]at hsc
   have:scl v=true:=by simpa[qh,ja]using hsc
   rw[zzf this h1 h3]at h4
   exact h4
 ·obtain⟨dst,op,type,pos,after,guard⟩:=o
  simp only at hl ⊢
  cases op<;>first|(cases hl;done)|rfl
 ·exact hnext E _ w (hs.env v u h1 o.dst (jN hN i o ho))
theorem Qe (i:Nat) {o:Oper} (hX:X.rd=none) (hT: ∀t y,T t=some y→q9 P t y) (hN:okN N ops=true) (ho:ops[i]? =some o) (hg:o.guard=none) (hf:zon o.op=true) (hs:Region.noSelect ops=true) (hfr:Region.free .any ops listed i=true) (hr:(Region.ready .any ops listed).contains i=true)
  (h:jx P T o.dst o.op (YQ P X w0 N ops R fuel (listed.setIfInBounds i true)) S):YQ P X w0 N ops R (fuel+1) listed S:=fun E a w hsim=>by
 obtain⟨v,u,h1,h2,h3,h4⟩:=zlO hT hf h hsim
 have hro:(rdF X.rd).round=none:=hX
 refine wpAnyIn_take (v:=u) hro ho hs hfr hr (fun c a w hq=>by cases hq.1) ⟨.inl ⟨jL hg a,h3⟩,h4⟩ ?_
 exact h2 E _ w (hsim.env v u h1 o.dst (jN hN i o ho))
theorem Yw {id:Nat} {Q:Exit→St→Prop} {D':Code} (Sc:St) (hR:qD R (DW P X w0 N D' Q)) (hm:P.follows .mixedOrders=true) (h:YQ P X w0 N ops (fun S'=>zY X S' Sc) ops.size (Array.replicate ops.size false) S) (hc:DW P X w0 N D' Q Sc):DW P X w0 N (.region id ops true) (zr R Q) S:=by
 refine zb9 (zc0 (Q:=fun _ _=>False) hm h) fun e S' hq=>?_
 cases e with
 |normal=>exact zl hR (zB hq hc)
 | _=>exact hq.elim
theorem zlb {o:Oper} {K:St→Prop} (hT: ∀t y,T t=some y→q9 P t y) (h:jx P T o.dst o.op (fun S1=>∃S2,zY X S1 S2∧K S2) S):yE P X w0 N o K S:=fun E a w hs hd K' Q hK=>
 Jm hT h hs hd fun S' E' a' w' h1 h2=>by
  obtain⟨S2,hw,hk⟩:=h1
  obtain⟨E2,h3⟩:=hw _ _ _ _ _ h2
  exact hK _ _ _ _ hk h3
def zpb (sl:List Nat) (o:Oper):Bool:=stops o.op||(match o.dst with
 |some d=>sl.contains d
 |none=>false)
def znS (sl:List Nat) (P:Program) (T:Nat→Option Ty) (X:Fr) (w0:World) (N:Nat) (o:Oper) (K:St→Prop) (S:St):Prop:=match zpb sl o with
 |true=>yE P X w0 N o K S
 |false=>jx P T o.dst o.op K S
def exW (sl:List Nat) (P:Program) (T:Nat→Option Ty) (X:Fr) (w0:World) (N:Nat) (ops:Array Oper):List Oper→(St→Prop)→St→Prop
 |[],K,S=>K S
 |o::os,K,S=>gd2 (ZN S (ZW ops o.guard)) (znS sl P T X w0 N o (exW sl P T X w0 N ops os K)) (Qu o.dst (exW sl P T X w0 N ops os K)) S
theorem zv7 {sl:List Nat} {K:St→Prop} {s:Nat→V} {b:Nat→Option (TypeId×List C)} {a:Nat→Option (TypeId×Nat×List (List F))}:exW sl P T X w0 N ops [] K ⟨s,b,a⟩=K ⟨s,b,a⟩:=rfl
theorem zrQ {sl:List Nat} {K:St→Prop} {s:Nat→V} {b:Nat→Option (TypeId×List C)} {a:Nat→Option (TypeId×Nat×List (List F))} {o:Oper} {os:List Oper}:exW sl P T X w0 N ops (o::os) K ⟨s,b,a⟩=gd2 (ZN ⟨s,b,a⟩ (ZW ops o.guard)) (znS sl P T X w0 N o (exW sl P T X w0 N ops os K)) (Qu o.dst (exW sl P T X w0 N ops os K)) ⟨s,b,a⟩:=rfl
theorem zyO {sl:List Nat} {K:St→Prop} {s:Nat→V} {b:Nat→Option (TypeId×List C)} {a:Nat→Option (TypeId×Nat×List (List F))} {o:Oper}:znS sl P T X w0 N o K ⟨s,b,a⟩=gd2 (some (zpb sl o)) (yE P X w0 N o K) (jx P T o.dst o.op K) ⟨s,b,a⟩:=by
 unfold znS
 cases zpb sl o<;>rfl
theorem zfR {sl:List Nat} {K:St→Prop} (hT: ∀t y,T t=some y→q9 P t y) (hd: ∀(i:Nat) (o:Oper),ops[i]? =some o→∀t,o.dst=some t→t<N) (hnd:(ops.toList.all fun o=>zsG o.op)=true) {Q:Exit→Act→World→Prop} (hK: ∀S' E' a' w',K S'→qv X w0 N S' E' a' w'→Q .normal a' w'):
  ∀(m i:Nat) {S:St} {E:qN} {a:Act} {w:World},exW sl P T X w0 N ops ((ops.toList.drop i).take m) K S→qv X w0 N S E a w→wpOpsIn (rdF X.rd) 0 P ops Q ((List.range m).map (i+ ·)) a w
 |0,i,S,E,a,w,h,hs=>hK _ _ _ _ h hs
 | m +1,i,S,E,a,w,h,hs=>by
  have e1:(List.range (m+1)).map (i+ ·)=i::(List.range m).map (i+1+ ·):=by
   rw[List.range_succ_eq_map]
   simp[List.map_map,Function.comp_def,Nat.add_assoc,Nat.add_comm,Nat.add_left_comm]
  rw[e1,wpOpsIn_cons]
  unfold wpOpIn
  cases ho:ops[i]? with
  |none=>
   have hi:ops.size≤i:=by simpa using ho
   rw[List.drop_eq_nil_of_le (by simpa using hi),List.take_nil]at h
   exact zfR hT hd hnd hK m (i+1) (by rw[List.drop_eq_nil_of_le (by simp;omega),List.take_nil];exact h) hs
  | some o=>
   have hi:i<ops.toList.length:=by simpa using (Array.getElem?_eq_some_iff.1 ho).1
   have hoi:ops.toList[i]=o:=by simpa using (Array.getElem?_eq_some_iff.1 ho).2
   have hdf: ∀c,o.op≠ .defer c:=fun c hc=>by
    have:=List.all_eq_true.1 hnd o (by rw[←hoi];exact List.getElem_mem hi)
    rw[hc]at this;cases this
   rw[List.drop_eq_getElem_cons hi,List.take_succ_cons,hoi]at h
   have h:gd2 (ZN S (ZW ops o.guard)) (znS sl P T X w0 N o (exW sl P T X w0 N ops ((ops.toList.drop (i+1)).take m) K)) (Qu o.dst (exW sl P T X w0 N ops ((ops.toList.drop (i+1)).take m) K)) S:=h
   have hg:ZW ops o.guard=o.guard.map fun g=>((ops[g.1]?).bind (·.dst),g.2):=by cases o.guard<;>rfl
   have hyes:ZN S (ZW ops o.guard)=some true∨ZN S (ZW ops o.guard)=some false:=by
    cases hq:ZN S (ZW ops o.guard)with
    |none=>rw[hq]at h;exact h.elim
    |some v=>cases v<;>simp
   rcases J5 hs hd (A:=ZN S (ZW ops o.guard)=some true) (B:=ZN S (ZW ops o.guard)=some false) (by rw[←hg];exact zqJ (hyes.imp (fun h=>⟨h,h⟩) fun h=>⟨h,h⟩))with⟨hw,h1⟩|⟨hw,h1⟩
   ·simp only[hw,if_true]
    rw[h1]at h
    have h:znS sl P T X w0 N o (exW sl P T X w0 N ops ((ops.toList.drop (i+1)).take m) K) S:=h
    unfold znS at h
    split at h
    ·refine Jc hdf ?_
     exact h E a w hs (hd i o ho) _ _ fun S' E' a' w' hk h'=>zfR hT hd hnd hK m (i+1) hk h'
    ·refine Jc hdf ?_
     exact Jm hT h hs (hd i o ho) fun S' E' a' w' h2 h3=>zfR hT hd hnd hK m (i+1) h2 h3
   ·simp only[hw,Bool.false_eq_true,if_false]
    rw[h1]at h
    have h:exW sl P T X w0 N ops ((ops.toList.drop (i+1)).take m) K ⟨qh S.slots o.dst .no,S.blks,S.arrs⟩:=h
    exact⟨fun _ _=>trivial,zfR hT hd hnd hK m (i+1) h (hs.env .no undef .no o.dst (hd i o ho))⟩
theorem zoH {id:Nat} {Q:Exit→St→Prop} (sl:List Nat) (hT: ∀t y,T t=some y→q9 P t y) (hN:okN N ops=true) (hnd:(ops.toList.all fun o=>zsG o.op)=true) (h:exW sl P T X w0 N ops ops.toList R S):DW P X w0 N (.region id ops false) (zr R Q) S:=fun E a w hs=>by
 refine wpIn_region ?_
 have:=zfR (Q:=fun e a' w'=>∃S' E',zr R Q e S'∧qv X w0 N S' E' a' w') hT (jN hN) hnd (fun S' E' _ _ hq hs=>⟨S',E',hq,hs⟩) ops.size 0 (by rw[List.drop_zero,List.take_of_length_le (by simp)];exact h) hs
 have e0:(List.range ops.size).map (0+ ·)=List.range ops.size:=by simp
 rw[e0]at this
 exact this
attribute [push_cast] zv7 zrQ zyO zpb List.contains_cons List.contains_nil Bool.or_false Bool.or_true Bool.false_or Bool.true_or
end
end
end Go.Dl
