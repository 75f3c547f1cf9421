import Derived.Test.YtbcbnfiedgnfpaaGreatZ06
import Derived.Test.YtbcbnfiedgnfpaaGreatZ07
import Derived.Laws.Pointers
set_option linter.unusedSimpArgs false
set_option linter.unusedVariables false
set_option maxRecDepth 100000
set_option maxHeartbeats 2000000
namespace Go.Dl
section
section
variable {P:Program} {T:Nat→Option Ty} {X:Fr} {w0:World} {N:Nat} {S:St} {Q:Exit→St→Prop} {I:Nat→Prop} {J:YJ} {k:Option Nat}
theorem za0:zY X S S:=fun _ _ E _ _ h=>⟨E,h⟩
theorem Qn {sl:List (Nat×V)} {bl:List (Nat×TypeId×List C)} {al:AL} (hb:X.B0=[]) (h0:zS al=true) (h1:zqi (bl.map (·.1)) (al.map fun x=>(x.1,x.2.1)) S.slots sl) (h2:zlp (al.map fun x=>(x.1,x.2.1)) S.blks bl) (h3:zk7 S.arrs al):zY X S (St.ofA sl bl al):=
 zp h0 h1 h2 h3 (by rw[hb];rfl)
theorem zhL {g:Operand} {ps:Array Tmp} {assign body:Code} {f:FuncId} {ca:List W} {el:Nat→Option (List V)} {ι:Type} (sl:List (Nat×V)) (bl:Nat→ι→BL) (al:Nat→ι→AL) (Rel:Nat→ι→Prop) (x0:ι) (M:Nat) (bn:List Nat) (hX:X.nm=false∨X.rd.isSome=true)
  (h0:zY X S (St.ofA sl (bl 0 x0) (al 0 x0))) (hr0:Rel 0 x0) (hM: ∀k x,Rel k x→k≤M) (hbn:(bn.all fun t=>(YX t (bl 0 x0)).isSome)=true) (hB0:(X.B0.all fun t=>bn.contains t)=true) (hst:(sl.all fun p=>zgN bn p.2)=true)
  (hg:ev (St.ofA sl (bl 0 x0) (al 0 x0)) g= .clo f [] ca) (hca:zf9 ca=true) (hit:Qx P f (ca.map W.asV) el M) (hps: ∀k vs,el k=some vs→vs.length=ps.size) (hpN:(ps.toList.all fun p=>decide (p<N))=true)
  (round: ∀k x vs,Rel k x→el k=some vs→∀XX I0 G l w1,(∀t,t∈X.B0→G t=X.G t)→DW P ⟨XX,I0,bn,G,some l,true⟩ w1 N assign (zuW fun S1=>∀XX I0 w2,DW P ⟨XX,I0,bn,G,some l,true⟩ w2 N body (znU (fun t=>lkV t sl) Q ⟨XX,I0,bn,G,some l,true⟩ fun S'=>∃x',Rel (k+1) x'∧S'=St.ofA [] (bl (k+1) x') (al (k+1) x')) S1) ⟨zdz ps.toList vs (fun t=>lkV t sl),fun t=>YX t (bl k x),fun a=>Ji a (al k x)⟩)
  (done: ∀k x,Rel k x→el k=none→Q .normal (St.ofA sl (bl k x) (al k x))):DW P X w0 N (.rangeFunc g ps assign body) Q S:=
 zqK (fun t=>lkV t sl) (fun k x=>St.ofA [] (bl k x) (al k x)) Rel x0 M bn hX h0 hr0 hM (fun t ht=>List.all_eq_true.1 hbn t ht) (fun t ht=>by simpa using List.all_eq_true.1 hB0 t ht) (zj3 hst) hg hca hit hps (fun p hp=>by simpa using List.all_eq_true.1 hpN p hp) round done
def LpN {ι:Type} (R:St→Prop) (X:Fr) (I:ι→St) (J lt:ι→Prop):Prop:=∀j S',zY X S' (I j)→J j→lt j→R S'
theorem ztu {ι:Type} {R:St→Prop} {I:ι→St} {J lt:ι→Prop} (h:LpN R X I J lt) (j:ι) (hw:zY X S (I j)) (hJ:J j) (hl:lt j):R S:=h j S hw hJ hl
theorem zcK {ι:Type} {c:Code} (I:ι→St) (J:ι→Prop) (μ:ι→Nat) (i0:ι) (hJ0:J i0) (h0:zY X S (I i0)) (round: ∀i,J i→∀R:St→Prop,LpN R X I J (fun j=>μ j<μ i)→DW P X w0 N c (zr R Q) (I i)):DW P X w0 N (.loop c) Q S:=
 zir (ι:={i // J i}) (fun i=>I i.1) (fun i=>μ i.1) ⟨i0,hJ0⟩ h0 fun i=>round i.1 i.2 _ fun j S' hw hJ hlt=>⟨⟨j,hJ⟩,hlt,hw⟩
theorem qG {A B:Prop} {ι:Type} {J W:ι→Prop} (x:ι) (hW:W x) (hB:B) (hA:A) (hJ:J x):A∧B∧∃x',J x'∧W x':=⟨hA,hB,x,hJ,hW⟩
theorem jh {B:Prop} {ι:Type} {J W:ι→Prop} (x:ι) (hW:W x) (hB:B) (hJ:J x):B∧∃x',J x'∧W x':=⟨hB,x,hJ,hW⟩
theorem zn8 {B:Prop} {ι:Type} {J K W:ι→Prop} (x:ι) (hK:K x) (hW:W x) (hB:B) (hJ:J x):B∧∃x',J x'∧K x'∧W x':=⟨hB,x,hJ,hK,hW⟩
def RAn (RA:Exit→St→Prop) (D:St→Prop):Prop:=∀S,D S→RA .normal S
def RQn {ι:Type} (RQ:Exit→St→Prop) (X:Fr) (Rel:ι→Prop) (mem:ι→St):Prop:=∀x S,Rel x→zY X S (mem x)→RQ .normal S
def RQr (RQ:Exit→St→Prop) (D:St→Prop):Prop:=∀S,D S→RQ .ret S
def RQe (RQ:Exit→St→Prop) (D:Nat→St→Prop):Prop:=∀id S,D id S→RQ (.exit id) S
theorem zjx {RA:Exit→St→Prop} {D:St→Prop} (h:RAn RA D) (hd:D S):RA .normal S:=h S hd
theorem zek {ι:Type} {RQ:Exit→St→Prop} {Rel:ι→Prop} {mem:ι→St} (h:RQn RQ X Rel mem) (x:ι) (hw:zY X S (mem x)) (hr:Rel x):RQ .normal S:=h x S hr hw
theorem ziM {RQ:Exit→St→Prop} {D:St→Prop} (h:RQr RQ D) (hd:D S):RQ .ret S:=h S hd
theorem zjJ {RQ:Exit→St→Prop} {D:Nat→St→Prop} {id:Nat} (h:RQe RQ D) (hd:D id S):RQ (.exit id) S:=h id S hd
theorem Zw {α:Type} {L:List α} {fe:α→List V} {g:Operand} {ps:Array Tmp} {assign body:Code} {f:FuncId} {ca:List W} {ι:Type} (sl:List (Nat×V)) (bl:Nat→ι→BL) (al:Nat→ι→AL) (Rel:Nat→ι→Prop) (x0:ι) (bn:List Nat) (hX:X.nm=false∨X.rd.isSome=true)
  (h0:zY X S (St.ofA sl (bl 0 x0) (al 0 x0))) (hr0:Rel 0 x0) (hbn:(bn.all fun t=>(YX t (bl 0 x0)).isSome)=true) (hB0:(X.B0.all fun t=>bn.contains t)=true) (hst:(sl.all fun p=>zgN bn p.2)=true)
  (hg:ev (St.ofA sl (bl 0 x0) (al 0 x0)) g= .clo f [] ca) (hca:zf9 ca=true) (hit:Qx P f (ca.map W.asV) (elL L fe) L.length) (hps: ∀x,(fe x).length=ps.size) (hpN:(ps.toList.all fun p=>decide (p<N))=true)
  (round: ∀k x (hk:k<L.length),Rel k x→∀XX I0 G l w1,(∀t,t∈X.B0→G t=X.G t)→∀RA:Exit→St→Prop,
   RAn RA (fun S1=>∀XX I0 w2 RQ,RQn RQ ⟨XX,I0,bn,G,some l,true⟩ (Rel (k+1)) (fun x'=>St.ofA [] (bl (k+1) x') (al (k+1) x'))→RQr RQ (fun S=>Q .ret ⟨fun t=>lkV t sl,S.blks,S.arrs⟩)→RQe RQ (fun id S=>Q (.exit id) ⟨fun t=>lkV t sl,S.blks,S.arrs⟩)→DW P ⟨XX,I0,bn,G,some l,true⟩ w2 N body RQ S1)→
   DW P ⟨XX,I0,bn,G,some l,true⟩ w1 N assign RA ⟨zdz ps.toList (fe L[k]) (fun t=>lkV t sl),fun t=>YX t (bl k x),fun a=>Ji a (al k x)⟩)
  (done: ∀x,Rel L.length x→Q .normal (St.ofA sl (bl L.length x) (al L.length x))):DW P X w0 N (.rangeFunc g ps assign body) Q S:=by
 refine zhL sl bl al (fun k x=>Rel k x∧k≤L.length) x0 L.length bn hX h0 ⟨hr0,Nat.zero_le _⟩ (fun k x h=>h.2) hbn hB0 hst hg hca hit (fun k vs h=>?_) hpN (fun k x vs hr hel XX I0 G l w1 hG=>?_) fun k x hr hel=>?_
 ·obtain⟨_,rfl⟩:=zfI h
  exact hps _
 ·obtain⟨hk,rfl⟩:=zfI hel
  refine round k x hk hr.1 XX I0 G l w1 hG _ fun S1 h=>?_
  intro XX I0 w2
  exact h XX I0 w2 _ (fun x' S hrx hw=>⟨_,hw,x',⟨hrx,hk⟩,rfl⟩) (fun S hq=>⟨S,za0,hq⟩) fun id S hq=>⟨S,za0,hq⟩
 ·have h1:=zuL hel
  have h2:k=L.length:=Nat.le_antisymm hr.2 h1
  subst h2
  exact done x hr.1
structure KtY (R:Option Nat→St→Prop) (D:Unit→Option Nat→St→Prop):Prop where
 k: ∀k S',D () k S'→R k S'
abbrev zr1 (R D:Option Nat→St→Prop):Prop:=KtY R fun _=>D
theorem ZC {R D:Option Nat→St→Prop} (h:zr1 R D) (hd:D k S):R k S:=h.k k S hd
theorem Zj {QY:Exit→Option Nat→St→Prop} {x y:Code} (h: ∀R:Option Nat→St→Prop,zr1 R (DY P I J N y QY)→DY P I J N x (Zf R QY) k S):DY P I J N (.seq x y) QY k S:=zfJ fun R hR=>h R ⟨hR⟩
theorem jw {QY:Exit→Option Nat→St→Prop} {c:Code} (h: ∀R:Option Nat→St→Prop,zr1 R (QY .normal)→DY P I J N c (Zf R QY) k S):DY P I J N c QY k S:=
 zje (h (QY .normal) ⟨fun _ _ h=>h⟩) fun e k S hq=>by cases e<;>exact hq
theorem Yf {QY:Exit→Option Nat→St→Prop} {id r1 r2 tI tN tC t2:Nat} {ty ty2 y1 y2 y3:TypeId} {p1 p2 p3:String} {a1 a2 a3:Array Edge} {B:Code}
  (h:DY P I J N (.block id (.loop (.seq (.region r1 #[⟨some tC,.binOp .lss ty (.tmp tI) (.tmp tN) ty2,y1,p1,a1,none⟩] false) (.seq (.cond (.tmp tC) .skip (.exit id)) (.seq B (.region r2 #[⟨some t2,.binOp .add ty (.tmp tI) (.const (.int .i64 1)) ty2,y2,p2,a2,none⟩,⟨some tI,.move (.tmp t2),y3,p3,a3,none⟩] false)))))) QY k S):
  DY P I J N (.block id (.loop (.seq (.region r1 #[⟨some tC,.binOp .lss ty (.tmp tI) (.tmp tN) ty2,y1,p1,a1,none⟩] false) (.seq (.cond (.tmp tC) .skip (.exit id)) (.seq B (.region r2 #[⟨some t2,.binOp .add ty (.tmp tI) (.const (.int .i64 1)) ty2,y2,p2,a2,none⟩,⟨some tI,.move (.tmp t2),y3,p3,a3,none⟩] false)))))) QY k S:=h
theorem qM {o:Oper} {K:Option Nat→St→Prop} {c:Call} {x:Operand} {l:Nat} {el:Nat→Option (List V)} (hY:zvb P I J l el) (hop:o.op= .call c) (hc:c.callee= .value x) (hx:ev S x= .c (.f (.s (.func (.yield l) #[] #[])))) {n:Nat} (hk:k=some n) (hel:el n=some (c.args.toList.map (ev S)))
  (ha:zc8 (c.args.toList.map (ev S))=true) (h1:K (some (n+1)) ⟨qh S.slots o.dst (.c (.f (.s (.bool true)))),S.blks,S.arrs⟩) (h0:K none ⟨qh S.slots o.dst (.c (.f (.s (.bool false)))),S.blks,S.arrs⟩):zrp P I J N o K k S:=
 zoe hY hop hc hx hk hel (zq ha) h1 h0
theorem Qj {el:Nat→Option (List V)} (h: ∀n,k=some n→el n=none):ztk el .ret k S:=h
theorem Qk {el:Nat→Option (List V)} (h: ∀n,k=some n→el n=none):ztk el .normal k S:=h
theorem zf7 {α:Type} {l r:List α} {f:α→List V} {n:Nat} {x:α} (h:l.drop n=x::r):elL l f n=some (f x)∧l.drop (n+1)=r:=by
 have hn:n<l.length:=by
  rcases Nat.lt_or_ge n l.length with h1|h1
  ·exact h1
  ·rw[List.drop_eq_nil_of_le h1]at h;cases h
 rw[List.drop_eq_getElem_cons hn]at h
 cases h
 exact⟨zmK hn,rfl⟩
theorem zkB {α:Type} {l:List α} {f:α→List V} {n:Nat} (h:l.drop n=[]):elL l f n=none:=zjL (by simpa using h)
section
variable {ops:Array Oper} {K:Option Nat→St→Prop} {s:Nat→V} {b:Nat→Option (TypeId×List C)} {a:Nat→Option (TypeId×Nat×List (List F))}
theorem zzt {o:Oper}:znK P T I J N o K k ⟨s,b,a⟩=gd2 (some (stops o.op)) (zrp P I J N o K k) (jx P T o.dst o.op (K k)) ⟨s,b,a⟩:=by
 rw[zeJ]
 cases stops o.op<;>rfl
end
end
def zsS (X:Fr) (w0:World) (N:Nat) (R:St→Prop):Exit→Act→World→Prop:=fun e a w=>e= .normal∧∃S' E',R S'∧qv X w0 N S' E' a w
def YQ (P:Program) (X:Fr) (w0:World) (N:Nat) (ops:Array Oper) (R:St→Prop) (fuel:Nat) (listed:Array Bool) (S:St):Prop:=∀(E:qN) (a:Act) (w:World),qv X w0 N S E a w→wpAnyIn (rdF X.rd) 0 P .any ops (zsS X w0 N R) fuel listed a w
def ziN:Op→Bool
 | .move _=>true
 | .nilCheck _=>true
 | .fieldAddr .. =>true
 | _=>false
section
variable {P:Program} {T:Nat→Option Ty} {X:Fr} {w0:World} {N:Nat} {S:St} {ops:Array Oper} {R:St→Prop} {fuel:Nat} {listed:Array Bool}
theorem zc0 {id:Nat} {Q:Exit→St→Prop} (hm:P.follows .mixedOrders=true) (h:YQ P X w0 N ops R ops.size (Array.replicate ops.size false) S):DW P X w0 N (.region id ops true) (zr R Q) S:=fun E a w hs=>by
 have hs':qv X w0 N S E a {w with drawn:=w.drawn+1}:=hs.grow (w':={w with drawn:=w.drawn+1}) ⟨rfl,rfl,rfl,Nat.le_refl _,fun _ _=>rfl⟩
 refine wpIn_mono (wpIn_region_any hm (h E a _ hs')) ?_
 rintro e a' w' ⟨rfl,S',E',hr,hs2⟩
 exact⟨S',E',hr,hs2⟩
theorem zgV {t:TypeId} {x:Operand} {f:Nat} {p:Prop} {v:V} {rn:List Nat} (he:qb P T S (.fieldAddr t x f)=some (p,.put v,rn)) (hp:p) {E:qN} {a:Act} {w:World} (hs:qv X w0 N S E a w):
  ∃y o z,T t=some y∧y.agg=true∧y.pls[f]? =some (o,z)∧∃ad,a.eval x= .pointer (some ad):=by
 rw[qb]at he
 have hv:=hs.ev x
 generalize a.eval x=u at hv
 split at he
 ·rename_i y b off hy hx
  split at he
  ·rename_i o z ho
   cases he
   rw[hx]at hv
   cases hv
   exact⟨y,o,z,hy,hp,ho,_,rfl⟩
  ·cases he
 ·rename_i y xs hy hx
  split at he
  ·rename_i o z ho
   cases he
   rw[hx]at hv
   cases hv
   exact⟨y,o,z,hy,hp,ho,_,rfl⟩
  ·cases he
 ·rename_i y b k i off hy hx
  split at he
  ·rename_i o z ho
   cases he
   rw[hx]at hv
   cases hv
   exact⟨y,o,z,hy,hp,ho,_,rfl⟩
  ·cases he
 ·cases he
theorem zrG {op:Op} (hf:ziN op=true) {p:Prop} {r:Res} {rn:List Nat} (he:qb P T S op=some (p,r,rn)): ∃v,r= .put v:=by
 cases op with
 |move x=>rw[qb]at he;cases he;exact⟨_,rfl⟩
 |nilCheck x=>
  rw[qb]at he
  (repeat' split at he)<;>first|(cases he;exact⟨_,rfl⟩)|cases he
 |fieldAddr t x f=>
  rw[qb]at he
  split at he
  all_goals first|(split at he<;>first|(cases he;exact⟨_,rfl⟩)|cases he)|cases he
 | _=>cases hf
theorem zeM (hT: ∀t y,T t=some y→q9 P t y) {o:Oper} (hf:ziN o.op=true) {K:St→Prop} {E:qN} {a:Act} {w:World} (h:jx P T o.dst o.op K S) (hs:qv X w0 N S E a w):
  ∃v u,qr w E v u∧K ⟨qh S.slots o.dst v,S.blks,S.arrs⟩∧(∀w',(execOp a.eval o).run P w'= .ok (.value u) w')∧∀w',o.about P w' a.eval=none:=by
 have key: ∃p v rn,qb P T S o.op=some (p,.put v,rn):=by
  unfold jx at h
  cases he:qb P T S o.op with
  |none=>rw[he]at h;exact h.elim
  |some q=>
   obtain⟨p,r,rn⟩:=q
   obtain⟨v,rfl⟩:=zrG hf he
   exact⟨p,v,rn,rfl⟩
 obtain⟨p,v,rn,he⟩:=key
 unfold jx at h
 rw[he]at h
 simp only at h
 obtain⟨u,h1,h2⟩:=zeS hT he h.1 hs o rfl
 refine⟨v,u,h1,yv.1 h.2,?_,fun w'=>?_⟩
 ·intro w'
  obtain⟨dst,op,type,pos,after,guard⟩:=o
  simp only at hf h2 he ⊢
  cases op with
  |move x=>
   simp[execOp]at h2 ⊢
   exact h2
  |fieldAddr t x f=>
   obtain⟨y,o,z,hy,hg,ho,ad,hx⟩:=zgV he h.1 hs
   have e1: ∀w2,(execOp a.eval ⟨dst,.fieldAddr t x f,type,pos,after,guard⟩).run P w2= .ok (.value (.pointer (some (ad.add o)))) w2:=fun w2=>qm rfl (by rw[hx,zcl (hT _ _ hy) hg ho])
   rw[e1]at h2
   rw[e1]
   cases h2;rfl
  | nilCheck x=>
   have hv:=hs.ev x
   rw[qb]at he
   generalize hx:a.eval x=q at hv
   have hq:(∃ad,q= .pointer (some ad))∨∃f us vs,q= .func (.func f) us vs:=by
    (repeat' split at he)<;>first|(rename_i hx2;rw[hx2]at hv;cases hv;exact .inl ⟨_,rfl⟩)|(rename_i hx2;rw[hx2]at hv;cases hv;exact .inr ⟨_,_,_,rfl⟩)|(rename_i hx2;rw[hx2]at hv;have:=zhK hv;exact .inr ⟨_,_,_,this⟩)|cases he
   have e1: ∀w2,(execOp a.eval ⟨dst,.nilCheck x,type,pos,after,guard⟩).run P w2= .ok (.value q) w2:=fun w2=>by
    rcases hq with⟨ad,rfl⟩|⟨f,us,vs,rfl⟩
    ·simp only[execOp,hx];simp[go_sem]
    ·simp only[execOp,hx];simp[go_sem]
   rw[e1]at h2
   rw[e1]
   cases h2;rfl
  | _=>cases hf
 ·obtain⟨dst,op,type,pos,after,guard⟩:=o
  simp only at hf ⊢
  cases op<;>first|(cases hf;done)|rfl
theorem zz (i:Nat) {o:Oper} (hX:X.rd=none) (hT: ∀t y,T t=some y→q9 P t y) (hN:okN N ops=true) (ho:ops[i]? =some o) (hg:o.guard=none) (hf:ziN o.op=true) (hs:Region.noSelect ops=true) (hfr:Region.free .any ops listed i=true) (hr:(Region.ready .any ops listed).contains i=true)
  (h:jx P T o.dst o.op (YQ P X w0 N ops R fuel (listed.setIfInBounds i true)) S):YQ P X w0 N ops R (fuel+1) listed S:=fun E a w hsim=>by
 obtain⟨v,u,h1,h2,h3,h4⟩:=zeM hT hf h hsim
 have hro:(rdF X.rd).round=none:=hX
 refine wpAnyIn_take (v:=u) hro ho hs hfr hr (fun c a w hq=>by cases hq.1) ⟨.inl ⟨jL hg a,h3⟩,h4⟩ ?_
 exact h2 E _ w (hsim.env v u h1 o.dst (jN hN i o ho))
def ji (P:Program) (T:Nat→Option Ty) (X:Fr) (w0:World) (N:Nat) (ops:Array Oper) (R:St→Prop) (fuel:Nat) (listed:Array Bool) (S:St):List Nat→Prop
 |[]=>True
 |i::l=>(match ops[i]? with
  |some o=>o.guard=none∧jx P T o.dst o.op (YQ P X w0 N ops R fuel (listed.setIfInBounds i true)) S
  |none=>False)∧ji P T X w0 N ops R fuel listed S l
theorem zml: ∀ {l:List Nat},ji P T X w0 N ops R fuel listed S l→∀i∈l,∃o,ops[i]? =some o∧o.guard=none∧jx P T o.dst o.op (YQ P X w0 N ops R fuel (listed.setIfInBounds i true)) S
 | j::l,h,i,hi=>by
  rcases List.mem_cons.1 hi with e|e
  ·subst e
   have h1:=h.1
   cases ho:ops[i]? with
   |none=>rw[ho]at h1;exact h1.elim
   |some o=>rw[ho]at h1;exact⟨o,rfl,h1⟩
  ·exact zml h.2 i e
theorem qo (rs:List Nat) (hT: ∀t y,T t=some y→q9 P t y) (hN:okN N ops=true) (hr:Region.ready .any ops listed=rs) (hne:rs≠[]) (h:ji P T X w0 N ops R fuel listed S rs):YQ P X w0 N ops R (fuel+1) listed S:=fun E a w hs=>by
 refine⟨fun e=>absurd (hr.symm.trans e) hne,fun i hi=>?_⟩
 rw[hr]at hi
 obtain⟨o,ho,hg,he⟩:=zml h i hi
 unfold wpOpIn
 rw[ho]
 simp only
 rw[if_pos (jL hg a)]
 exact Jc (zcN he) (Jm hT he hs (jN hN i o ho) fun S' E' a' w' h1 h2=>h1 E' a' w' h2)
theorem yh (hr:Region.ready .any ops listed=[]) (h:R S):YQ P X w0 N ops R fuel listed S:=fun E a w hs=>by
 have hq:zsS X w0 N R .normal a w:=⟨rfl,S,E,h,hs⟩
 cases fuel with
 |zero=>exact⟨hr,hq⟩
 |succ fuel=>exact⟨fun _=>hq,fun i hi=>by rw[hr]at hi;cases hi⟩
end
theorem zvd {vs:List V} {f:Nat→V}:zdz [] vs f=f:=by cases vs<;>rfl
theorem zqT {p:Nat} {ps:List Nat} {v:V} {vs:List V} {f:Nat→V}:zdz (p::ps) (v::vs) f=zdz ps vs (ja f p v):=rfl
theorem zpP {t n off:Nat} {r:List F}:fzV t r (.loc n off)=if n=t then .rd (r.drop off)else .loc n off:=rfl
theorem zoP {t:Nat} {r:List F} {f:FuncId} {x y:List W}:fzV t r (.clo f x y)= .clo f (x.map (fzW t r)) (y.map (fzW t r)):=rfl
theorem zyE {t:Nat} {r:List F} {x:C}:fzV t r (.c x)= .c x:=rfl
theorem ztz {t:Nat} {r:List F} {x:List C}:fzV t r (.agg x)= .agg x:=rfl
theorem ztP {t:Nat} {r:List F} {x:List (Bool×List C)}:fzV t r (.tup x)= .tup x:=rfl
theorem zst {t:Nat} {r:List F} {x:List F}:fzV t r (.rd x)= .rd x:=rfl
theorem zsg {t:Nat} {r:List F}:fzV t r .un= .un:=rfl
theorem zsP {t:Nat} {r:List F}:fzV t r .no= .no:=rfl
theorem zsv {t:Nat} {r:List F} {a k i o:Nat}:fzV t r (.el a k i o)= .el a k i o:=rfl
theorem zpy {t n off:Nat} {r:List F}:fzW t r (.loc n off)=if n=t then .rd (r.drop off)else .loc n off:=rfl
theorem zyb {t:Nat} {r:List F} {x:F}:fzW t r (.f x)= .f x:=rfl
theorem zya {t:Nat} {r:List F} {x:List F}:fzW t r (.agg x)= .agg x:=rfl
theorem zr9 {t:Nat} {r:List F} {x:List F}:fzW t r (.rd x)= .rd x:=rfl
attribute [push_cast] Option.some.injEq ite_self
attribute [push_cast] wsD wD zjf zce zzt zvd zqT zpP zoP zyE ztz ztP zst zsg zsP zsv zpy zyb zya zr9
end
end Go.Dl
namespace Go.Dl
open Go.Ed Go.RowKit
section
def zos:Op→Bool
 | .buildSlice _ n _=>match n with
  |1=>true
  | _=>false
 | _=>false
def zlT (x:Option Out) (dst:Option Nat) (K:St→Prop) (S:St):Prop:=match x with
 |some (p,.mk e k rows,_)=>match dst with
  |some d=>p∧S.arrs d=none∧K ⟨ja S.slots d (.c (.o d)),S.blks,fun c=>if c=d then some (e,k,rows)else S.arrs c⟩
  |none=>False
 | _=>False
theorem zno {x x':Option Out} {dst:Option Nat} {K:St→Prop} {S:St} (h:x=x'):zlT x dst K S=zlT x' dst K S:=h▸rfl
attribute [congr] zno
def zoJ:Op→Bool
 | .binOp .eql _ _ (.const (.pointer none)) _=>true
 | _=>false
def zmU (lt:Bool) (P:Program) (T:Nat→Option Ty) (X:Fr) (w0:World) (N:Nat) (o:Oper) (K:St→Prop) (S:St):Prop:=match lt&&zos o.op with
 |true=>zlT (qb P T S o.op) o.dst K S
 |false=>match zoJ o.op with
  |true=>yE P X w0 N o K S
  |false=>zbd P T X w0 N o K S
def exV (lt:Bool) (P:Program) (T:Nat→Option Ty) (X:Fr) (w0:World) (N:Nat) (ops:Array Oper):List Oper→(St→Prop)→St→Prop
 |[],K,S=>K S
 |o::os,K,S=>gd2 (ZN S (ZW ops o.guard)) (zmU lt P T X w0 N o (exV lt P T X w0 N ops os K)) (Qu o.dst (exV lt P T X w0 N ops os K)) S
def zCp:V→Option Bool
 | .rd _=>some false
 | .loc _ _=>some false
 | .el _ _ _ _=>some false
 | .c (.f (.s (.pointer none)))=>some true
 | _=>none
section
variable {lt:Bool} {P:Program} {T:Nat→Option Ty} {ops:Array Oper} {K:St→Prop} {X:Fr} {w0:World} {N:Nat} {s:Nat→V} {b:Nat→Option (TypeId×List C)} {a:Nat→Option (TypeId×Nat×List (List F))}
theorem zxv:exV lt P T X w0 N ops [] K ⟨s,b,a⟩=K ⟨s,b,a⟩:=rfl
theorem zsH {o:Oper} {os:List Oper}:exV lt P T X w0 N ops (o::os) K ⟨s,b,a⟩=gd2 (ZN ⟨s,b,a⟩ (ZW ops o.guard)) (zmU lt P T X w0 N o (exV lt P T X w0 N ops os K)) (Qu o.dst (exV lt P T X w0 N ops os K)) ⟨s,b,a⟩:=rfl
theorem zzF {o:Oper}:zmU lt P T X w0 N o K ⟨s,b,a⟩=gd2 (some (lt&&zos o.op)) (zlT (qb P T ⟨s,b,a⟩ o.op) o.dst K) (gd2 (some (zoJ o.op)) (yE P X w0 N o K) (zbd P T X w0 N o K)) ⟨s,b,a⟩:=by
 unfold zmU
 cases lt&&zos o.op<;>cases zoJ o.op<;>rfl
theorem zxG {p:Prop} {rn:List Nat} {e:TypeId} {k:Nat} {rows:List (List F)} {d:Nat}:zlT (some (p,.mk e k rows,rn)) (some d) K ⟨s,b,a⟩=(p∧a d=none∧K ⟨ja s d (.c (.o d)),b,fun c=>if c=d then some (e,k,rows)else a c⟩):=rfl
attribute [push_cast] zxv zsH zzF zxG zos zoJ Bool.false_and Bool.true_and
theorem zui {S:St} {E:qN} {act:Act} {w:World} (hT: ∀t y,T t=some y→q9 P t y) {o:Oper} {p:Prop} {e:TypeId} {k:Nat} {rows:List (List F)} {rn:List Nat} (h:qb P T S o.op=some (p,.mk e k rows,rn)) (hp:p) {d:Nat} (hd0:o.dst=some d) (hfree:S.arrs d=none) (hs:qv X w0 N S E act w) (hd: ∀t,o.dst=some t→t<N)
  {K:Act→World→Prop} {Q:Exit→Act→World→Prop} (hK: ∀E' a' w',qv X w0 N ⟨ja S.slots d (.c (.o d)),S.blks,fun c=>if c=d then some (e,k,rows)else S.arrs c⟩ E' a' w'→K a' w'):o.wp P act w K Q:=by
 obtain⟨r,vs,rfl,hrk,hr,hx⟩:=zo9 hT h hp hs
 unfold Oper.wp
 rw[hx]
 have hbel:Below w.heap.size w (w.alloc (.cells vs e)):=(Below.refl _ w).alloc (Nat.le_refl _) _
 have hvs:vs.size=k:=by have:=hr.1;simp only[Array.length_toList]at this;omega
 have hown:(w.alloc (.cells vs e)).ownsRow w.heap.size e k (.slice (some ⟨w.heap.size,0,none⟩) 1 1) [r].length vs.toList:=⟨by simp[hvs],.inr ⟨_,1,vs,rfl,Nat.le_refl _,heap_alloc_new _ _,Nat.le_refl _,by unfold maxLen;omega,by simp[hvs],by rw[List.take_of_length_le];simp[hvs]⟩⟩
 have hmem: ∀b,E.I b→(w.alloc (.cells vs e)).heap[b]? =w.heap[b]? :=fun b hb=>hbel.block b (hs.il b hb)
 have hrep:RepFs (w.alloc (.cells vs e)) E.I [r].flatten vs.toList:=⟨by simpa using hr.1,fun j x u hx hu=>by
  have hx:r[j]? =some x:=by simpa using hx
  exact(hr.2 j x u hx hu).mono hmem fun _ h=>h⟩
 obtain⟨E',hL,hs'⟩:=hs.newArr (e:=e) (k:=k) (rows:=[r]) hbel hfree hown hrep (fun q hq=>by rw[List.mem_singleton.1 hq];exact hrk)
 have:=hs'.env (.c (.o d)) (.slice (some ⟨w.heap.size,0,none⟩) 1 1) (.c (.o hL rfl)) o.dst hd
 rw[hd0]at this
 show K (act.put o.dst _) _
 rw[hd0]
 exact hK _ _ _ this
theorem zwr {d:Option Nat} {op:Op} {S:St} (h:zlT (qb P T S op) d K S): ∀c,op≠ .defer c:=fun c e=>by
 subst e
 simp[zlT,qb]at h
theorem zvK {o:Oper} {S:St} (h:zbd P T X w0 N o K S): ∀c,o.op≠ .defer c:=fun c hc=>by
 unfold zbd at h
 split at h
 ·rename_i hst;rw[hc]at hst;cases hst
 ·exact zcN h c hc
theorem zqc {S:St} {E:qN} {act:Act} {w:World} (hT: ∀t y,T t=some y→q9 P t y) {o:Oper} (h:zbd P T X w0 N o K S) (hs:qv X w0 N S E act w) (hd: ∀t,o.dst=some t→t<N)
  {K':Act→World→Prop} {Q:Exit→Act→World→Prop} (hK: ∀S' E' a' w',K S'→qv X w0 N S' E' a' w'→K' a' w'):o.wp P act w K' Q:=by
 unfold zbd at h
 split at h
 ·exact h E act w hs hd _ _ fun S' E' a' w' hk h'=>hK S' E' a' w' hk h'
 ·exact Jm hT h hs hd fun S' E' a' w' h2 h3=>hK S' E' a' w' h2 h3
theorem zdv (hT: ∀t y,T t=some y→q9 P t y) (hd: ∀(i:Nat) (o:Oper),ops[i]? =some o→∀t,o.dst=some t→t<N) {Q:Exit→Act→World→Prop} (hK: ∀S' E' a' w',K S'→qv X w0 N S' E' a' w'→Q .normal a' w'):
  ∀(m i:Nat) {S:St} {E:qN} {a:Act} {w:World},exV lt P T X w0 N ops ((ops.toList.drop i).take m) K S→qv X w0 N S E a w→wpOpsIn (rdF X.rd) 0 P ops Q ((List.range m).map (i+ ·)) a w
 |0,i,S,E,a,w,h,hs=>hK _ _ _ _ h hs
 | m + 1,i,S,E,a,w,h,hs=>by
  have e1:(List.range (m+1)).map (i+ ·)=i::(List.range m).map (i+1+ ·):=by
   rw[List.range_succ_eq_map]
   simp[List.map_map,Function.comp_def,Nat.add_assoc,Nat.add_comm,Nat.add_left_comm]
  rw[e1,wpOpsIn_cons]
  unfold wpOpIn
  cases ho:ops[i]? with
  |none=>
   have hi:ops.size≤i:=by simpa using ho
   rw[List.drop_eq_nil_of_le (by simpa using hi),List.take_nil]at h
   exact zdv hT hd hK m (i+1) (by rw[List.drop_eq_nil_of_le (by simp;omega),List.take_nil];exact h) hs
  | some o=>
   have hi:i<ops.toList.length:=by simpa using (Array.getElem?_eq_some_iff.1 ho).1
   have hoi:ops.toList[i]=o:=by simpa using (Array.getElem?_eq_some_iff.1 ho).2
   rw[List.drop_eq_getElem_cons hi,List.take_succ_cons,hoi]at h
   have h:gd2 (ZN S (ZW ops o.guard)) (zmU lt P T X w0 N o (exV lt P T X w0 N ops ((ops.toList.drop (i+1)).take m) K)) (Qu o.dst (exV lt P T X w0 N ops ((ops.toList.drop (i+1)).take m) K)) S:=h
   have hg:ZW ops o.guard=o.guard.map fun g=>((ops[g.1]?).bind (·.dst),g.2):=by cases o.guard<;>rfl
   have hyes:ZN S (ZW ops o.guard)=some true∨ZN S (ZW ops o.guard)=some false:=by
    cases hq:ZN S (ZW ops o.guard)with
    |none=>rw[hq]at h;exact h.elim
    |some v=>cases v<;>simp
   rcases J5 hs hd (A:=ZN S (ZW ops o.guard)=some true) (B:=ZN S (ZW ops o.guard)=some false) (by rw[←hg];exact zqJ (hyes.imp (fun h=>⟨h,h⟩) fun h=>⟨h,h⟩))with⟨hw,h1⟩|⟨hw,h1⟩
   ·simp only[hw,if_true]
    rw[h1]at h
    have h:zmU lt P T X w0 N o (exV lt P T X w0 N ops ((ops.toList.drop (i+1)).take m) K) S:=h
    unfold zmU at h
    split at h
    ·refine Jc (zwr h) ?_
     unfold zlT at h
     split at h
     ·rename_i p e k rows rn he
      split at h
      ·rename_i d hdd
       exact zui hT he h.1 hdd h.2.1 hs (hd i o ho) fun E' a' w' h'=>zdv hT hd hK m (i+1) h.2.2 h'
      ·exact h.elim
     ·exact h.elim
    ·split at h
     ·rename_i hst
      refine Jc (fun c hc=>by rw[hc]at hst;cases hst) ?_
      exact h E a w hs (hd i o ho) _ _ fun S' E' a' w' hk h'=>zdv hT hd hK m (i+1) hk h'
     ·exact Jc (zvK h) (zqc hT h hs (hd i o ho) fun S' E' a' w' h2 h3=>zdv hT hd hK m (i+1) h2 h3)
   ·simp only[hw,Bool.false_eq_true,if_false]
    rw[h1]at h
    have h:exV lt P T X w0 N ops ((ops.toList.drop (i+1)).take m) K ⟨qh S.slots o.dst .no,S.blks,S.arrs⟩:=h
    exact⟨fun _ _=>trivial,zdv hT hd hK m (i+1) h (hs.env .no undef .no o.dst (hd i o ho))⟩
theorem zqz {S:St} {o:Oper} {t yt te:TypeId} {x:Operand} (hop:o.op= .binOp .eql t x (.const (.pointer none)) yt) (hp:P.underlying t=some (.pointer te)) {r:Bool} (hx:zCp (ev S x)=some r)
    (hK:K ⟨qh S.slots o.dst (.c (.f (.s (.bool r)))),S.blks,S.arrs⟩):yE P X w0 N o K S:=fun E a w hs hd K' Q h=>by
  have hx':=hs.ev x
  have key: ∃p:Option Addr,a.eval x= .pointer p∧p.isNone=r:=by
    generalize a.eval x=u at hx'
    cases hv:ev S x with
    |rd xs=>rw[hv]at hx hx';cases hx;cases hx';exact⟨_,rfl,rfl⟩
    |loc c off=>rw[hv]at hx hx';cases hx;cases hx';exact⟨_,rfl,rfl⟩
    |el c k i off=>rw[hv]at hx hx';cases hx;cases hx';exact⟨_,rfl,rfl⟩
    | c y =>
      rw[hv]at hx hx'
      cases y with
      | f y =>cases y with
        | s v =>cases v with
          | pointer p=>
            cases p with
            | none=>
              cases hx
              cases hx' with
              | c h=>cases h with
                |f h=>cases h;exact⟨_,rfl,rfl⟩
            |some _=>cases hx
          | _=>cases hx
        | _=>cases hx
      | _=>cases hx
    | _=>rw[hv]at hx;cases hx
  obtain⟨p,hv,rfl⟩:=key
  have hpt:P.underlying t=some (.pointer (P.pointee t)):=by rw[hp];simp[Program.pointee,hp]
  have hr:(execOp a.eval o).run P w= .ok (.value (.bool p.isNone)) w:=by
    have h2:=run_eql_pointer_nil (P:=P) (w:=w) t p hpt
    obtain⟨dst,op,type,pos,after,guard⟩:=o
    simp only at hop
    subst hop
    exact qm (s:=do eqGuard .eql t x (.const (.pointer none)) (.pointer p) (.pointer none);binOp .eql t (.pointer p) (.pointer none)) (by simp only[execOp,hv];rfl) (by rw[eqGuard_at_pointer];simp[h2])
  unfold Oper.wp
  rw[hr]
  exact h _ _ _ _ hK (hs.env (.c (.f (.s (.bool p.isNone)))) _ (.c (.f (.s rfl))) o.dst hd)
theorem jk (lt:Bool) {id:Nat} {S:St} {R:St→Prop} {Q:Exit→St→Prop} (hT: ∀t y,T t=some y→q9 P t y) (hN:okN N ops=true) (h:exV lt P T X w0 N ops ops.toList R S):DW P X w0 N (.region id ops false) (zr R Q) S:=fun E a w hs=>by
 refine wpIn_region ?_
 have:=zdv (Q:=fun e a' w'=>∃S' E',zr R Q e S'∧qv X w0 N S' E' a' w') hT (jN hN) (fun S' E' _ _ hq hs=>⟨S',E',hq,hs⟩) ops.size 0 (by rw[List.drop_zero,List.take_of_length_le (by simp)];exact h) hs
 have e0:(List.range ops.size).map (0+ ·)=List.range ops.size:=by simp
 rw[e0]at this
 exact this
end
end
end Go.Dl
namespace Go.Dl
theorem zK {X:Fr} {S:St} (t off a:Nat) (e:TypeId) (k:Nat) {te:TypeId} {cs:List C} (hb:S.blks t=some (te,cs)) (hc:cs[off]? =some (.f (.s (.slice none 0 0)))) (ha:S.arrs a=none):
  zY X S ⟨S.slots,ja S.blks t (some (te,cs.set off (.o a))),fun c=>if c=a then some (e,k,[])else S.arrs c⟩:=by
 intro w0 N E act w hs
 have hLn:E.L a=none:=hs.an a ha
 let E':qN:=⟨E.B,fun c=>if c=a then some (.slice none 0 0)else E.L c,E.I⟩
 have hL: ∀c v,E.L c=some v→E'.L c=some v:=fun c v h=>by
  show(if c=a then some (Value.slice none 0 0)else E.L c)=some v
  by_cases hc:c=a
  ·subst hc;rw[hLn]at h;cases h
  ·rw[if_neg hc];exact h
 have hLi: ∀c v b,E'.L c=some v→v.ownBlock=some b→c≠a∧E.L c=some v:=fun c v b h hb=>by
  have h:(if c=a then some (Value.slice none 0 0)else E.L c)=some v:=h
  by_cases hc:c=a
  ·rw[if_pos hc]at h;cases h;cases hb
  ·rw[if_neg hc]at h;exact⟨hc,h⟩
 have hle:qN.Le w w E E':=⟨fun _ _=>rfl,fun _ h=>h,fun _ _ h=>h,hL⟩
 refine⟨E',hs.chg,hs.fr,hs.sz,fun x=>(hs.slot x).mono hle,fun t' e cs' ht=>?_,hs.inj,hs.bl,fun c e' k' rows' hc=>?_,fun c v' b hv' hb=>?_,fun c c' v1 v2 b h1 h2 h3 h4=>?_,fun t' ht=>hs.bn t' (by have ht:ja S.blks t (some (te,cs.set off (.o a))) t'=none:=ht;unfold ja at ht;split at ht<;>first|exact ht|cases ht),fun c hc=>?_,hs.il,hs.i0,hs.i1,hs.kp⟩
 ·have ht:ja S.blks t (some (te,cs.set off (.o a))) t'=some (e,cs'):=ht
  unfold ja at ht
  by_cases hx:t'=t
  ·rw [if_pos hx]at ht
   cases ht
   subst hx
   obtain⟨b,vs,h3,h4,h5,h6⟩:=hs.blk _ _ _ hb
   refine⟨b,vs,h3,h4,⟨by rw[List.length_set];exact h5.1,fun j x u hx hu=>?_⟩,h6⟩
   rw[List.getElem?_set]at hx
   by_cases hj:off=j
   ·subst hj
    rw[if_pos rfl]at hx
    have h1:=h5.2 off _ u hc hu
    split at hx
    ·cases hx
     cases h1 with
     |f h1=>cases h1 with
      |s h1=>exact .o (if_pos rfl) h1
    ·cases hx
   ·rw[if_neg hj]at hx
    exact(h5.2 j x u hx hu).mono hle
  ·rw[if_neg hx]at ht
   obtain⟨b,vs,h3,h4,h5,h6⟩:=hs.blk _ _ _ ht
   exact⟨b,vs,h3,h4,h5.mono hle,h6⟩
 ·have hc:(if c=a then some (e,k,[])else S.arrs c)=some (e',k',rows'):=hc
  by_cases hca:c=a
  ·rw[if_pos hca]at hc;cases hc
   exact⟨.slice none 0 0,[],if_pos hca,World.ownsRow_nil _ _ _ _,⟨rfl,fun j x u h=>by simp at h⟩,fun r h=>by simp at h,fun b h=>by cases h⟩
  ·rw[if_neg hca]at hc
   obtain⟨v1,us1,q1,q2,q3,q4,q5⟩:=hs.arr _ _ _ _ hc
   exact⟨v1,us1,hL _ _ q1,q2,q3,q4,q5⟩
 ·obtain⟨hca,hv'⟩:=hLi _ _ _ hv' hb
  exact hs.al _ _ _ hv' hb
 ·exact hs.ai c c' v1 v2 b (hLi _ _ _ h1 h3).2 (hLi _ _ _ h2 h4).2 h3 h4
 ·have hc:(if c=a then some (e,k,[])else S.arrs c)=none:=hc
  show(if c=a then some (Value.slice none 0 0)else E.L c)=none
  by_cases hca:c=a
  ·rw[if_pos hca]at hc;cases hc
  ·rw[if_neg hca]at hc ⊢;exact hs.an c hc
attribute [simp] zZ zqi zlp zk7 zp3 wkS wkB wk QB Z2 vle cle yT St.of St.ofA lkV YX Ji YK zam zac ja qh z9 zS z7 zN zM zD zE mvA zp2 lkR zl2 zid zlY zih zhl mvs mv mws mw ev ztU zsV zbs zbl zbi qz JX zjS zmj zkI zls zjZ zkv zlS zjY zlh zh7 zhW zot zhR zoZ zyu zyi zx7 zyA zyB zym zx2 zyp zyy zyr zyx zup zrP zrV zA3 zsd zur zA2 zyw zyj zyf zys zyh zyg ztr zss zuQ zBB zse zsR zut zu4 zA8 zpP zoP zyE ztz ztP zst zsg zsP zsv zpy zyb zya zr9
end Go.Dl
namespace Go.Dl
open Go.Ed Go.RowKit
section
def zfu:C→Bool
 | .f (.s _)=>true
 | _=>false
def znI:V→Bool
 | .c x=>zfu x
 | .agg xs=>xs.all zfu
 | .tup xs=>xs.all fun p=>p.2.all zfu
 | _=>false
section
variable {P:Program} {X:Fr} {w0 w w':World} {N:Nat} {S:St} {E E':qN} {a:Act} {o:Oper} {K:St→Prop}
theorem zbD {x:C} {u:Value} (h:zfu x=true) (hr:Qm w E x u):Qm w' E' x u:=by
 cases x with
 | f x=>cases x with
  | s v=>cases hr with
   |f hr=>cases hr with
    |s hr=>exact .f (.s hr)
  | _=>cases h
 | _=>cases h
theorem zea {xs:List C} {us:List Value} (h:xs.all zfu=true) (hr:Reps w E xs us):Reps w' E' xs us:=
 ⟨hr.1,fun j x u hx hu=>zbD (List.all_eq_true.1 h x (List.mem_of_getElem? hx)) (hr.2 j x u hx hu)⟩
theorem zni {x:V} {u:Value} (h:znI x=true) (hr:qr w E x u):qr w' E' x u:=by
 cases x with
 |c x=>cases hr with
  |c hr=>exact .c (zbD h hr)
 |agg xs=>cases hr with
  |agg hr=>exact .agg (zea h hr)
 | tup xs=>cases hr with
  | tup hl hr=>
   refine .tup hl fun j x u hx hu=>?_
   have h1:=List.all_eq_true.1 h x (List.mem_of_getElem? hx)
   have h2:=hr j x u hx hu
   obtain⟨b,cs⟩:=x
   cases b
   ·obtain⟨y,e,h3⟩:=h2
    subst e
    exact⟨y,rfl,zbD (by simpa using h1) h3⟩
   ·obtain⟨vs,e,h3⟩:=h2
    exact⟨vs,e,zea h1 h3⟩
 | _=>cases h
theorem zmI {c:Call} {f:FuncId} {vs0:List V} {r:V} (hop:o.op= .call c) (hf:c.callee= .value (.func f)) (hb:Yz P f) (hc:zpu P f vs0 r) (hpl:znI r=true) (ha:zbi S.arrs (c.args.toList.map (ev S)) vs0) (hs:qv X w0 N S E a w) (hd: ∀t,o.dst=some t→t<N)
  {K:Act→World→Prop} {Q:Exit→Act→World→Prop} (hK: ∀E' a' w',qv X w0 N {S with slots:=qh S.slots o.dst r} E' a' w'→K a' w'):o.wp P a w K Q:=by
 obtain⟨fn,hfn,hbody,hnm⟩:=hb
 obtain⟨hl,hv⟩:=ze1 hs ha
 have hx:(execOp a.eval o).run P w= .ok (.enter f (c.args.map a.eval)) w:=by
  obtain⟨callee,args,argTypes⟩:=c
  simp only at hf
  subst hf
  have h1:fn.body≠none:=fun h=>by simp[h]at hbody
  have h2:fn.name≠ "runtime.NumGoroutine" :=by simpa using hnm
  simp[execOp,hop,resolve,invoke,Act.eval,Deferred.ofValue,callFunc,hfn,h1,h2]
 unfold Oper.wp
 rw[hx]
 refine Calls.mono (hc w (c.args.map a.eval) (zgW S E) (fun b hb=>hb.elim (hs.il b) fun⟨c,v,h1,h2⟩=>(hs.al c v b h1 h2).1) (by rw[←hl];simp) fun j v u h1 h2=>hv j v u h1 fun x hx=>?_) ?_
 ·rw[List.getElem?_map]at hx
  rw[Array.getElem?_map]at h2
  cases hq:c.args[j]? with
  |none=>simp[hq]at h2
  |some q=>
   simp[hq]at h2
   rw[show c.args.toList[j]? =some q by simpa using hq]at hx
   cases hx
   subst h2
   exact hs.ev q
 ·rintro e w' ⟨u,I',rfl,hr,hbel,hI,hI'⟩
  have h:=hs.grow hbel
  exact hK _ _ _ (h.env _ u (zni hpl hr) o.dst hd)
theorem yz {c:Call} {f:FuncId} (hop:o.op= .call c) (hf:c.callee= .value (.func f)) {vs0:List V} {r:V} (hc:zu P f vs0 r) (hpl:znI r=true) (ha:zbi S.arrs (c.args.toList.map (ev S)) vs0) (hK:K ⟨qh S.slots o.dst r,S.blks,S.arrs⟩):yE P X w0 N o K S:=
 fun E a w hs hd K' Q h=>zmI hop hf hc.1 hc.2 hpl ha hs hd fun E' a' w' h'=>h _ _ _ _ hK h'
end
attribute [simp] List.lookup_cons List.lookup_nil
end
section
def zpe (S:St):List (Nat×Operand)→Option (List (List F))
 |[]=>some []
 | (_,x)::r=>match Jy (ev S x),zpe S r with
  |some cs,some qs=>match frz cs with
   |some q=>some (q::qs)
   |none=>none
  | _,_=>none
theorem zll {k:Nat}: ∀(vs:List Value) (j:Nat) (cs:Array Value),(∀v∈vs,v.cells.size=k)→(j+vs.length)*k≤cs.size→
  ∃cs',Instr.fill (fun i=>some (i*k,k)) cs ((vs.zipIdx j).map fun p=>(p.2,p.1))=some cs'∧cs'.toList=cs.toList.take (j*k)++(vs.map fun v=>v.cells.toList).flatten++cs.toList.drop ((j+vs.length)*k)
 |[],j,cs,_,_=>⟨cs,rfl,by simp⟩
 | v::vs,j,cs,hv,hl=>by
  have h0:=hv v (by simp)
  have hl:(j+(vs.length+1))*k≤cs.size:=hl
  have e2:(j+(vs.length+1))*k=(j+1)*k+vs.length*k:=by rw[←Nat.add_mul];congr 1;omega
  have e3:(j+1)*k=j*k+k:=Nat.succ_mul _ _
  have e4:(j+1+vs.length)*k=(j+(vs.length+1))*k:=by congr 1;omega
  have hf:=zcb (j*k) v.cells.toList 0 cs (by simp;omega)
  obtain⟨cs1,hc1⟩: ∃cs1,v.cells.zipIdx.foldl (fun cs p=>cs.setIfInBounds (j*k+p.2) p.1) cs=cs1:=⟨_,rfl⟩
  have hc2:cs1.toList=cs.toList.take (j*k)++v.cells.toList++cs.toList.drop (j*k+k):=by
   rw[←hc1,←Array.foldl_toList,Array.toList_zipIdx]
   rw[show(0:Nat)=0 from rfl]at hf
   simpa[h0]using hf
  have hs1:cs1.size=cs.size:=by
   have:=congrArg List.length hc2
   simp[h0]at this
   omega
  obtain⟨cs',h1,h2⟩:=zll vs (j+1) cs1 (fun u hu=>hv u (by simp[hu])) (by rw[hs1,e4];exact hl)
  refine⟨cs',?_,?_⟩
  ·rw[List.zipIdx_cons,List.map_cons]
   unfold Instr.fill
   simp only
   rw[if_neg (by simp[h0];omega),hc1]
   exact h1
  ·rw[h2,hc2]
   have l1:(cs.toList.take (j*k)++v.cells.toList).length=(j+1)*k:=by simp[h0];omega
   rw[List.take_left' l1,List.map_cons,List.flatten_cons]
   have e5:((j+1)+vs.length)*k=(cs.toList.take (j*k)++v.cells.toList).length+vs.length*k:=by rw[l1,←Nat.add_mul]
   rw[e5,List.drop_length_add_append,List.drop_drop]
   simp only[List.append_assoc,List.length_cons]
   congr 4
   omega
theorem zhE {f:Operand→Value}: ∀(l:List (Nat×Operand)) (j:Nat),l.map (·.1)=List.range' j l.length→l.map (fun p=>(p.1,f p.2))=((l.map fun p=>f p.2).zipIdx j).map fun p=>(p.2,p.1)
 |[],j,_=>rfl
 |(i,x)::l,j,h=>by
  simp only[List.map_cons,List.length_cons,List.range'_succ,List.cons.injEq]at h
  rw[List.map_cons,List.map_cons,List.zipIdx_cons,List.map_cons,zhE l (j+1) h.2,h.1]
section
variable {P:Program} {T:Nat→Option Ty} {X:Fr} {w0 w:World} {N:Nat} {S:St} {E:qN} {a:Act} {o:Oper} {K:St→Prop}
theorem zlI (hs:qv X w0 N S E a w): ∀(l:List (Nat×Operand)) {rows:List (List F)},zpe S l=some rows→
  RepFs w E.I rows.flatten ((l.map fun p=>(a.eval p.2).cells.toList).flatten)∧rows.map (·.length)=l.map fun p=>(a.eval p.2).cells.size
 |[],rows,h=>by cases h;exact⟨⟨rfl,fun j x u hx=>by simp at hx⟩,rfl⟩
 | (i,x)::l,rows,h=>by
  simp only[zpe]at h
  split at h
  ·rename_i cs qs hc hq
   split at h
   ·rename_i q hr
    cases h
    obtain⟨h1,h2⟩:=zlI hs l hq
    have hv:=QU (hs.ev x) hc
    obtain⟨h3,h4⟩:=zdh hr hv
    refine⟨?_,?_⟩
    ·rw[List.flatten_cons,List.map_cons,List.flatten_cons]
     refine⟨by simp[h3.1,h1.1],fun j y u hx hu=>?_⟩
     rcases Nat.lt_or_ge j q.length with hj|hj
     ·rw[List.getElem?_append_left hj]at hx
      rw[List.getElem?_append_left (by rw[←h3.1];exact hj)]at hu
      exact h3.2 j y u hx hu
     ·rw[List.getElem?_append_right hj]at hx
      rw[List.getElem?_append_right (by rw[←h3.1];exact hj),←h3.1]at hu
      exact h1.2 _ y u hx hu
    ·have:=h3.1
     simp only[Array.length_toList]at this
     simp[h2,this]
   ·cases h
  ·cases h
theorem zl8 {t n:Nat} {ps:Array (Nat×Operand)} (hop:o.op= .buildSlice t n ps) (hT: ∀t y,T t=some y→q9 P t y) {y:Ty} (hy:T t=some y) {e k b:Nat} (he:y.elem=some (e,k,b)) {rows:List (List F)} (hr:zpe S ps.toList=some rows)
    (hk:(rows.all fun r=>r.length==k)=true) (hn:rows.length=n) (hi:ps.toList.map (·.1)=List.range' 0 ps.toList.length) (h0:0<n) (hsm:n*k≤16777216)
    (hK:K ⟨qh S.slots o.dst (.c (.f (.l k rows))),S.blks,S.arrs⟩):yE P X w0 N o K S:=fun E a w hs hd K' Q h=>by
  obtain⟨hu1,hk0,ie,ze,hie,hze,hu2,hbe,hzk⟩:=(hT _ _ hy).elem _ _ _ he
  obtain⟨h1,h2⟩:=zlI hs _ hr
  have hall: ∀r∈rows,r.length=k:=fun r hr=>by simpa using List.all_eq_true.1 hk r hr
  have hlen:ps.toList.length=n:=by have:=congrArg List.length h2;simp at this;simp;omega
  have hsz: ∀v∈ps.toList.map (fun p=>a.eval p.2),v.cells.size=k:=fun v hv=>by
    obtain⟨p,hp,rfl⟩:=List.mem_map.1 hv
    have hm:(a.eval p.2).cells.size∈rows.map (·.length):=by rw[h2];exact List.mem_map.2 ⟨p,hp,rfl⟩
    obtain⟨r,hr1,hr2⟩:=List.mem_map.1 hm
    rw[←hr2];exact hall r hr1
  obtain⟨cs',f1,f2⟩:=zll (ps.toList.map fun p=>a.eval p.2) 0 ((Array.range (n*ie.size)).map (ze.cells[· % ze.cells.size]!)) hsz (by simp[hu2];rw[←hlen];simp)
  have hcs:cs'.toList=(ps.toList.map fun p=>(a.eval p.2).cells.toList).flatten:=by
    rw[f2,List.map_map]
    simp only[Nat.zero_mul,List.take_zero,List.nil_append,Nat.zero_add,List.length_map]
    rw[List.drop_of_length_le (by simp[hu2];rw[←hlen];simp),List.append_nil]
    rfl
  have hpos: ¬n*ie.size=0:=by rw[hu2];exact Nat.ne_of_gt (Nat.mul_pos h0 hk0)
  have hx:(execOp a.eval o).run P w= .ok (.value (.slice (some ⟨w.heap.size,0,none⟩) n n)) (w.alloc (.cells cs' e)):=by
    obtain⟨dst,op,type,pos,after,guard⟩:=o
    simp only at hop
    subst hop
    simp only[execOp,Sem.run_bind]
    rw[run_buildSlice (P:=P) w t e n _ cs' ie ze hu1 hie hze (by rw[hu2];omega) hpos]
    · rfl
    · rw[Array.toList_map,zhE _ 0 hi,hu2]
      rw[hu2]at f1
      exact f1
  have h':=hs.newI (.cells cs' e)
  have hblk:Blk (w.alloc (.cells cs' e)) w.heap.size e cs':=Blk.new _ _ _
  have hb:Below w.heap.size w (w.alloc (.cells cs' e)):=(Below.refl _ w).alloc (Nat.le_refl _) _
  unfold Oper.wp
  rw[hx]
  refine h _ _ _ _ hK (h'.env (.c (.f (.l k rows))) _ (.c (.f (.l (fun j=>cs'.getD j undef) hn h0 hall (Nat.le_refl _) (.inr rfl) (fun j x hj=>?_) fun j x hj=>?_))) o.dst hd)
  · have hj2:j<cs'.size:=by
      have q1:=(List.getElem?_eq_some_iff.1 hj).1
      have q2:=h1.1
      rw[←hcs]at q2
      simp at q1 q2
      omega
    rw[j6,hblk.cell]
    simp[Array.getD,hj2]
  · have hj2:j<cs'.size:=by
      have q1:=(List.getElem?_eq_some_iff.1 hj).1
      have q2:=h1.1
      rw[←hcs]at q2
      simp at q1 q2
      omega
    have:=h1.2 j x cs'[j] hj (by rw[←hcs];simp[hj2])
    have hget:cs'.getD j undef=cs'[j]:=by simp[Array.getD,hj2]
    rw[hget]
    exact this.mono (fun b hb'=>hb.block b (hs.il b hb')) fun _ h=>.inl h
end
end
end Go.Dl
namespace Go.Dl
section
def zon:Op→Bool
 | .extract .. =>true
 |op=>ziN op
def zeP (ops:Array Oper) (n:Nat) (fl:List Nat):Bool:=(List.range ops.size).all fun m=>decide (m<n)||(List.range m).all fun i=>fl.contains i||((msk ops.toList []).getD m 0).testBit i
def zaV (ops:Array Oper) (n i:Nat):Bool:=decide (i<n)&&match ops[i]? with
 |some oi=>oi.guard.isNone&&zon oi.op&&(List.range ops.size).all fun j=>j==i||((msk ops.toList []).getD i 0).testBit j||match ops[j]? with
  |some oj=>oj.after.any (fun e=>Region.binds .any e&&e.on==i)||oi.apart ops oj
  |none=>true
 |none=>false
section
variable {P:Program} {T:Nat→Option Ty} {ops:Array Oper} {X:Fr} {w0:World} {N:Nat} {S:St}
theorem zlO (hT: ∀t y,T t=some y→q9 P t y) {o:Oper} (hf:zon o.op=true) {K:St→Prop} {E:qN} {a:Act} {w:World} (h:jx P T o.dst o.op K S) (hs:qv X w0 N S E a w):
  ∃v u,qr w E v u∧K ⟨qh S.slots o.dst v,S.blks,S.arrs⟩∧(∀w',(execOp a.eval o).run P w'= .ok (.value u) w')∧∀w',o.about P w' a.eval=none:=by
 obtain⟨dst,op,type,pos,after,guard⟩:=o
 simp only at hf h
 cases op with
 | extract x i=>
  simp only[jx,qb]at h
  cases hx:ev S x with
  | tup xs=>
   rw[hx]at h
   simp only at h
   have hx':=hx▸hs.ev x
   generalize hu:a.eval x=u at hx'
   cases hx' with
   | @tup _ us hl hxx=>
    have key: ∀q,xs[i]? =some q→∃u,us[i]? =some u∧RepP w E q u:=fun q hq=>by
     have hi:i<us.size:=by rw[←hl];exact(List.getElem?_eq_some_iff.1 hq).1
     exact⟨us[i],Array.getElem?_eq_getElem hi,hxx i q _ hq (Array.getElem?_eq_getElem hi)⟩
    cases hq:xs[i]? with
    |none=>rw[hq]at h;exact h.elim
    | some q=>
     obtain⟨u,h1,h2⟩:=key q hq
     rw[hq]at h
     obtain⟨b,cs⟩:=q
     cases b with
     |true=>
      obtain⟨vs,rfl,h2⟩:=h2
      exact⟨_,_,.agg h2,yv.1 h.2,fun w'=>qm rfl (by simp[hu,Instr.extract,h1]),fun w'=>rfl⟩
     | false=>
      rcases cs with _|⟨c,_|⟨c',r⟩⟩
      ·exact h.elim
      ·obtain⟨z,hz,h2⟩:=h2
       cases hz
       exact⟨_,_,.c h2,yv.1 h.2,fun w'=>qm rfl (by simp[hu,Instr.extract,h1]),fun w'=>rfl⟩
      ·exact h.elim
  | _=>rw[hx]at h;exact h.elim
 |move x=>exact zeM (o:=⟨dst,.move x,type,pos,after,guard⟩) hT rfl h hs
 |nilCheck x=>exact zeM (o:=⟨dst,.nilCheck x,type,pos,after,guard⟩) hT rfl h hs
 |fieldAddr t x f=>exact zeM (o:=⟨dst,.fieldAddr t x f,type,pos,after,guard⟩) hT rfl h hs
 | _=>cases hf
theorem zcJ {n:Nat} {fl:List Nat} (htail:zeP ops n fl=true) {listed:Array Bool} {i:Nat} {o:Oper} (hlt':i<listed.size) (ho:ops[i]? =some o) (hpre: ∀e,e∈o.after→Region.binds .any e=true→listed.getD e.on false=true) (hcl:Zr ops (fun j=>listed.getD j false)) (hi:n≤i) (j:Nat) (hj:j<i) (hf:fl.contains j=false):listed.getD j false=true:=by
 have hlt:i<ops.size:=(Array.getElem?_eq_some_iff.1 ho).1
 have h0:=List.all_eq_true.1 htail i (List.mem_range.2 hlt)
 simp only[Bool.or_eq_true,decide_eq_true_eq]at h0
 have h3:=List.all_eq_true.1 (h0.resolve_left (by omega)) j (List.mem_range.2 hj)
 rw[hf,Bool.false_or]at h3
 have h4:(msk ops.toList [])[i]? =some ((msk ops.toList []).getD i 0):=by
  cases hq:(msk ops.toList [])[i]? with
  |none=>
   rw[List.getD_eq_getElem?_getD,hq]at h3
   simp at h3
  |some m=>rw[List.getD_eq_getElem?_getD,hq];rfl
 have hset':(listed.setIfInBounds i true).getD i false=true:=by
  rw[Array.getD_eq_getD_getElem?,Array.getElem?_setIfInBounds_self_of_lt hlt'];rfl
 have:=zf6 (ops:=ops) ops.toList [] [] (by simp) rfl (fun j m hj=>by simp at hj) i _ h4 j h3 _ (Zp hlt' ho hpre hcl) hset'
 rw[Array.getD_eq_getD_getElem?,Array.getElem?_setIfInBounds_ne (by omega),←Array.getD_eq_getD_getElem?]at this
 exact this
theorem zmN {n i:Nat} {o:Oper} (h:zaV ops n i=true) (ho:ops[i]? =some o) {listed:Array Bool} (hsz:listed.size=ops.size) (hpre: ∀e,e∈o.after→Region.binds .any e=true→listed.getD e.on false=true) (hcl:Zr ops (fun j=>listed.getD j false)):
  Region.free .any ops listed i=true∧o.guard=none∧zon o.op=true∧i<n:=by
 have hlt:i<ops.size:=(Array.getElem?_eq_some_iff.1 ho).1
 have hlt':i<listed.size:=by omega
 simp only[zaV,ho,Bool.and_eq_true,decide_eq_true_eq]at h
 obtain⟨h0,⟨h1,h2⟩,h3⟩:=h
 refine⟨?_,by simpa using h1,h2,h0⟩
 simp only[Region.free,ho]
 refine List.all_eq_true.2 fun j hj=>?_
 have h4:=List.all_eq_true.1 h3 j hj
 simp only[Bool.or_eq_true,beq_iff_eq]at h4 ⊢
 rcases h4 with(h4|h4)|h4
 ·exact .inl (.inl h4)
 ·by_cases hji:j=i
  ·exact .inl (.inl hji)
  refine .inl (.inr ?_)
  have h5:(msk ops.toList [])[i]? =some ((msk ops.toList []).getD i 0):=by
   cases hq:(msk ops.toList [])[i]? with
   |none=>
    rw[List.getD_eq_getElem?_getD,hq]at h4
    simp at h4
   |some m=>rw[List.getD_eq_getElem?_getD,hq];rfl
  have hset':(listed.setIfInBounds i true).getD i false=true:=by
   rw[Array.getD_eq_getD_getElem?,Array.getElem?_setIfInBounds_self_of_lt hlt'];rfl
  have:=zf6 (ops:=ops) ops.toList [] [] (by simp) rfl (fun j m hj=>by simp at hj) i _ h5 j h4 _ (Zp hlt' ho hpre hcl) hset'
  rw[Array.getD_eq_getD_getElem?,Array.getElem?_setIfInBounds_ne (fun e=>hji e.symm),←Array.getD_eq_getD_getElem?]at this
  have hj':j<listed.size:=by rw[hsz];exact List.mem_range.1 hj
  rw[Array.getD_eq_getD_getElem?,Array.getElem?_eq_getElem hj']at this ⊢
  simpa using this
 ·exact .inr (by cases hq:ops[j]? with|none=>rfl|some oj=>rw[hq]at h4;simpa using h4)
theorem zg9 (hok:okD ops=true) {n:Nat} {fl:List Nat} (hfl: ∀i,i∈fl→i<n) (htail:zeP ops n fl=true) {F:Fence} {Q:Exit→Act→World→Prop}: ∀(m fuel:Nat) (listed:Array Bool) (a:Act) (w:World),m≤ops.size - n→listed.size=ops.size→(∀j,j<ops.size - m→listed.getD j false=true)→(∀j,ops.size - m≤j→listed.getD j false=false)→listed.toList.countP id+fuel≥ops.size→Zr ops (fun j=>listed.getD j false)→
  wpOpsIn F 0 P ops Q ((List.range m).map (ops.size - m+ ·)) a w→wpAnyIn F 0 P .any ops Q fuel listed a w
 |0,fuel,listed,a,w,_,hsz,h1,h2,hc,hcl,h=>zpQ (fun j hj=>h1 j (by omega)) h fuel
 |m+1,0,listed,a,w,hm,hsz,h1,h2,hc,hcl,h=>by
  exfalso
  have:=QS listed.toList (by rw[Array.length_toList,hsz];omega) (ops.size - (m+1)) (by simp[hsz];omega)
  rw[Array.getElem?_toList]at this
  have h3:=h2 (ops.size - (m+1)) (Nat.le_refl _)
  rw[Array.getD_eq_getD_getElem?,this]at h3
  cases h3
 | m +1,fuel+1,listed,a,w,hm,hsz,h1,h2,hc,hcl,h=>by
  have hn:n≤ops.size - (m+1):=by omega
  refine⟨fun hr=>?_,fun i hi=>?_⟩
  ·have:=zaW hok hsz hr (ops.size - (m+1)) (by omega)
   rw[h2 _ (Nat.le_refl _)]at this
   cases this
  ·obtain⟨q1,o,ho,hpre⟩:=mem_ready.1 hi
   have hlt:i<ops.size:=(Array.getElem?_eq_some_iff.1 ho).1
   have hlt':i<listed.size:=by omega
   have hif:listed.getD i false=false:=by
    rw[Array.getD_eq_getD_getElem?,Array.getElem?_eq_getElem hlt']at q1 ⊢
    simpa using q1
   have hie:i=ops.size - (m+1):=by
    rcases Nat.lt_trichotomy i (ops.size - (m+1))with hq|hq|hq
    ·rw[h1 i hq]at hif;cases hif
    ·exact hq
    ·have:=zcJ htail hlt' ho hpre hcl (by omega) (ops.size - (m+1)) hq (by
      cases hb:fl.contains (ops.size - (m+1))with
      |false=>rfl
      |true=>have:=hfl _ (by simpa using hb);omega)
     rw[h2 _ (Nat.le_refl _)]at this
     cases this
   have e1:(List.range (m+1)).map (ops.size - (m+1)+ ·)=i::(List.range m).map (ops.size - m+ ·):=by
    rw[List.range_succ_eq_map,hie]
    simp only[List.map_cons,List.map_map,Nat.add_zero,List.cons.injEq,true_and]
    refine List.map_congr_left fun x hx=>?_
    simp only[Function.comp_def]
    omega
   rw[e1,wpOpsIn_cons]at h
   have hset: ∀j,j≠i→(listed.setIfInBounds i true).getD j false=listed.getD j false:=fun j hj=>by
    rw[Array.getD_eq_getD_getElem?,Array.getElem?_setIfInBounds_ne (by omega),←Array.getD_eq_getD_getElem?]
   have hset':(listed.setIfInBounds i true).getD i false=true:=by
    rw[Array.getD_eq_getD_getElem?,Array.getElem?_setIfInBounds_self_of_lt hlt'];rfl
   refine wpOpIn_mono (fun a w h=>zg9 hok hfl htail m fuel _ a w (by omega) (by simpa using hsz) (fun j hj=>?_) (fun j hj=>?_) ?_ (Zp hlt' ho hpre hcl) h) h
   ·by_cases hji:j=i
    ·rw[hji];exact hset'
    ·rw[hset j hji];exact h1 j (by omega)
   ·rw[hset j (by omega)];exact h2 j (by omega)
   ·rw[Array.toList_setIfInBounds,Q2 _ _ (by
     rw[Array.getElem?_toList,Array.getElem?_eq_getElem hlt']
     rw[Array.getD_eq_getD_getElem?,Array.getElem?_eq_getElem hlt']at hif
     simpa using hif)]
    omega
theorem znq (hX : X.rd=none) (hsel:Region.noSelect ops=true) (hT: ∀t y,T t=some y→q9 P t y) (hd: ∀(i:Nat) (o:Oper),ops[i]? =some o→∀t,o.dst=some t→t<N) (hok:okD ops=true) {n:Nat} (hn:n<ops.size) {fl:List Nat} (hfl:(fl.all fun i=>zaV ops n i)=true) (htail:zeP ops n fl=true) {bx:List Nat} (hbx: ∀(i:Nat) o d,ops[i]? =some o→YB o.op=true→o.dst=some d→d∈bx) {rs:Nat→Ap} {rns:Nat→List Nat} {S0:St}
    (hst: ∀(i:Nat) o,i<n→ops[i]? =some o→Yk P T ops o (Sq rs (fun j=>(ops[j]?).bind (·.dst)) S0 (fun _=>true) i) (rs i) (rns i)∧(yY o.op=false→∀b∈rns i,b∉bx)) {R:St→Prop}
    (hQ: ∀E a w,qv X w0 N (Sq rs (fun j=>(ops[j]?).bind (·.dst)) S0 (fun _=>true) n) E a w→wpOpsIn (rdF X.rd) 0 P ops (zsS X w0 N R) ((List.range (ops.size - n)).map (n+ ·)) a w):
    ∀ (fuel:Nat) (listed:Array Bool) (E:qN) (a:Act) (w:World),listed.size=ops.size→(∀j,n≤j→listed.getD j false=false)→listed.toList.countP id+fuel≥ops.size→Zr ops (fun j=>listed.getD j false)→
      qv X w0 N (Sq rs (fun j=>(ops[j]?).bind (·.dst)) S0 (fun j=>listed.getD j false) ops.size) E a w→wpAnyIn (rdF X.rd) 0 P .any ops (zsS X w0 N R) fuel listed a w:=by
  have hfl': ∀i,i∈fl→zaV ops n i=true:=fun i hi=>List.all_eq_true.1 hfl i hi
  have hfn: ∀i,i∈fl→i<n:=fun i hi=>by
    have:=hfl' i hi
    simp only[zaV,Bool.and_eq_true,decide_eq_true_eq]at this
    exact this.1
  intro fuel
  induction fuel with
  | zero=>
    intro listed E a w hsz hno hcnt hcl hs
    exfalso
    have:=QS listed.toList (by rw[Array.length_toList,hsz];omega) n (by simp[hsz];omega)
    rw[Array.getElem?_toList]at this
    have h3:=hno n (Nat.le_refl _)
    rw[Array.getD_eq_getD_getElem?,this]at h3
    cases h3
  | succ fuel ih=>
    intro listed E a w hsz hno hcnt hcl hs
    have hgo: ∀i,i<n→i∈Region.ready .any ops listed→∃o,ops[i]? =some o∧(∀e,e∈o.after→Region.binds .any e=true→listed.getD e.on false=true)∧Yk P T ops o (Sq rs (fun j=>(ops[j]?).bind (·.dst)) S0 (fun j=>listed.getD j false) ops.size) (rs i) (rns i)∧
        ∀E' a' w',qv X w0 N ((rs i).at o.dst (Sq rs (fun j=>(ops[j]?).bind (·.dst)) S0 (fun j=>listed.getD j false) ops.size)) E' a' w'→wpAnyIn (rdF X.rd) 0 P .any ops (zsS X w0 N R) fuel (listed.setIfInBounds i true) a' w':=fun i hin hi=>by
      obtain⟨h1,o,ho,hpre⟩:=mem_ready.1 hi
      have hlt:i<ops.size:=(Array.getElem?_eq_some_iff.1 ho).1
      have hlt':i<listed.size:=by omega
      have hif:listed.getD i false=false:=by
        rw[Array.getD_eq_getD_getElem?,Array.getElem?_eq_getElem hlt']at h1 ⊢
        simpa using h1
      have hset: ∀j,j≠i→(listed.setIfInBounds i true).getD j false=listed.getD j false:=fun j hj=>by
        rw[Array.getD_eq_getD_getElem?,Array.getElem?_setIfInBounds_ne (by omega),←Array.getD_eq_getD_getElem?]
      have hset':(listed.setIfInBounds i true).getD i false=true:=by
        rw[Array.getD_eq_getD_getElem?,Array.getElem?_setIfInBounds_self_of_lt hlt'];rfl
      have hDm: ∀j,listed.getD j false=true→j<n:=fun j hj=>by
        rcases Nat.lt_or_ge j n with h|h
        · exact h
        · rw[hno j h]at hj;cases hj
      obtain⟨hstep,hnext⟩:=zal (D:=fun j=>listed.getD j false) (D':=fun j=>(listed.setIfInBounds i true).getD j false) (m:=n) hok hbx hst hcl ho hin hDm hif (fun e he hb=>hpre e (by simpa using he) hb) hset' hset
      refine⟨o,ho,hpre,hstep,fun E' a' w' hs'=>ih _ E' a' w' (by simpa using hsz) (fun j hj=>by rw[hset j (by omega)];exact hno j hj) ?_ (Zp hlt' ho hpre hcl) (by rw[←hnext];exact hs')⟩
      rw[Array.toList_setIfInBounds,Q2 _ _ (by
        rw[Array.getElem?_toList,Array.getElem?_eq_getElem hlt']
        rw[Array.getD_eq_getD_getElem?,Array.getElem?_eq_getElem hlt']at hif
        simpa using hif)]
      omega
    by_cases hall: ∀j,j<n→listed.getD j false=true
    · have key: ∀m,m≤n→Sq rs (fun j=>(ops[j]?).bind (·.dst)) S0 (fun j=>listed.getD j false) m=Sq rs (fun j=>(ops[j]?).bind (·.dst)) S0 (fun _=>true) m:=by
        intro m
        induction m with
        |zero=>intro _;rfl
        |succ m ih=>intro hm;rw[Sq,Sq,ih (by omega),hall m (by omega)]
      have key2: ∀m,n≤m→m≤ops.size→Sq rs (fun j=>(ops[j]?).bind (·.dst)) S0 (fun j=>listed.getD j false) m=Sq rs (fun j=>(ops[j]?).bind (·.dst)) S0 (fun j=>listed.getD j false) n:=by
        intro m
        induction m with
        |zero=>intro h _;rw[Nat.le_zero.1 h]
        | succ m ih=>
          intro h hm
          by_cases e:n=m+1
          · rw[e]
          · rw[Sq,hno m (by omega),if_neg (by simp)];exact ih (by omega) (by omega)
      rw[key2 ops.size (by omega) (Nat.le_refl _),key n (Nat.le_refl _)]at hs
      have e2:ops.size - (ops.size - n)=n:=by omega
      exact zg9 hok hfn htail (ops.size - n) (fuel+1) listed a w (Nat.le_refl _) hsz (fun j hj=>hall j (by omega)) (fun j hj=>hno j (by omega)) hcnt hcl (by rw[e2];exact hQ E a w hs)
    · by_cases hfr: ∃i,i∈fl∧i∈Region.ready .any ops listed
      · obtain ⟨i,hif,hi⟩:=hfr
        obtain⟨o,ho,hpre,hstep,hgo⟩:=hgo i (hfn i hif) hi
        obtain⟨h1,h2,h3,h4⟩:=zmN (hfl' i hif) ho hsz hpre hcl
        have hone:zeo P T o.dst o.op (Sq rs (fun j=>(ops[j]?).bind (·.dst)) S0 (fun j=>listed.getD j false) ops.size) (rs i) (rns i):=by
          rcases hstep with h|h
          · exact h.2
          · rw[h2]at h;cases h.1
        have he3:jx P T o.dst o.op (fun S'=>S'=(rs i).at o.dst (Sq rs (fun j=>(ops[j]?).bind (·.dst)) S0 (fun j=>listed.getD j false) ops.size)) (Sq rs (fun j=>(ops[j]?).bind (·.dst)) S0 (fun j=>listed.getD j false) ops.size):=by
          rcases hone with⟨f,args,as1,res,hc,_⟩|⟨_,p,q,he,hp,hr⟩
          · obtain⟨c,hop,_⟩:=zaS hc
            rw[hop]at h3;cases h3
          · unfold jx
            rw[he]
            cases q with
            |put v=>have hr:rs i=Ap.put v:=hr;exact⟨hp,yv.2 (by rw[hr];rfl)⟩
            | _ =>
              exfalso
              cases hq:o.op<;>rw[hq]at h3 he<;>first
                |(cases h3;done)
                |(rw[qb]at he;(repeat' split at he)<;>cases he)
        obtain⟨v,u,g1,g2,g3,g4⟩:=zlO hT h3 he3 hs
        refine wpAnyIn_take (v:=u) hX ho hsel h1 (by simpa using hi) (fun c a w hq=>by cases hq.1) ⟨.inl ⟨jL h2 a,g3⟩,g4⟩ (hgo E _ w ?_)
        rw[←g2]
        exact hs.env v u g1 o.dst (hd i o ho)
      · refine ⟨fun hr=>absurd (fun j hj=>zaW hok hsz hr j (by omega)) hall,fun i hi=>?_⟩
        have hin:i<n:=by
          rcases Nat.lt_or_ge i n with h|h
          · exact h
          · exfalso
            obtain⟨h1,o,ho,hpre⟩:=mem_ready.1 hi
            have hlt:i<ops.size:=(Array.getElem?_eq_some_iff.1 ho).1
            refine hall fun j=>?_
            induction j using Nat.strongRecOn with
            | _ j ihj=>
              intro hj
              cases hq:listed.getD j false with
              |true=>rfl
              | false=>
                exfalso
                have hjl:j<listed.size:=by omega
                cases hfj:fl.contains j with
                | false=>
                  have:=zcJ htail (by omega) ho hpre hcl h j (by omega) hfj
                  rw[this]at hq;cases hq
                | true=>
                  refine hfr ⟨j,by simpa using hfj,mem_ready.2 ⟨?_,ops[j]'(by omega),Array.getElem?_eq_getElem (by omega),fun e he hb=>?_⟩⟩
                  · rw[Array.getD_eq_getD_getElem?,Array.getElem?_eq_getElem hjl]at hq ⊢
                    simpa using hq
                  · have h1:=(zjD hok).1 j _ (Array.getElem?_eq_getElem (by omega)) e (by simpa using he) hb
                    exact ihj e.on h1 (by omega)
        obtain⟨o,ho,hpre,hstep,hgo⟩:=hgo i hin hi
        exact zbC hT hd ho hstep hs hgo
theorem Z0 {R:St→Prop} {id:Nat} {Q:Exit→St→Prop} (n:Nat) (fl bx:List Nat) (hX:X.rd=none) (hT: ∀t y,T t=some y→q9 P t y) (hm:P.follows .mixedOrders=true) (hN:okN N ops=true) (hok:okD ops=true) (hn:n<ops.size) (hsel:Region.noSelect ops=true) (hfl:(fl.all fun i=>zaV ops n i)=true) (htail:zeP ops n fl=true) (hbx:zfk ops=bx)
  (h:exB P T ops bx (ops.toList.take n) (fun S'=>zky (exU P T X w0 N ops (ops.toList.drop n) R) S') S):DW P X w0 N (.region id ops true) (zr R Q) S:=by
 refine zc0 hm fun E a w hs=>?_
 obtain⟨rs,rns,h1,h2⟩:=zeA _ _ (zaA _ _ h)
 have hlen:(ops.toList.take n).length=n:=by rw[List.length_take,Array.length_toList];omega
 have hds: ∀m,m≤n→Sq rs (fun j=>((ops.toList.take n)[j]?).bind (·.dst)) S (fun _=>true) m=Sq rs (fun j=>(ops[j]?).bind (·.dst)) S (fun _=>true) m:=fun m hm=>zuR m fun j hj=>by
  rw[List.getElem?_take,if_pos (by omega),Array.getElem?_toList]
 rw[hlen,hds n (Nat.le_refl _)]at h2
 have hbx': ∀(i:Nat) o d,ops[i]? =some o→YB o.op=true→o.dst=some d→d∈bx:=fun i o d ho hb hd=>by
  rw[←hbx]
  refine List.mem_filterMap.2 ⟨o,?_,by rw[if_pos hb,hd]⟩
  rw[←Array.getElem?_toList]at ho
  exact List.mem_of_getElem? ho
 have hfalse:(fun j=>(Array.replicate ops.size false).getD j false)=fun _=>false:=by
  funext j
  rw[Array.getD_eq_getD_getElem?,Array.getElem?_replicate]
  split<;>rfl
 have hSq: ∀n,Sq rs (fun j=>(ops[j]?).bind (·.dst)) S (fun _=>false) n=S:=by
  intro n
  induction n with
  |zero=>rfl
  |succ n ih=>rw[Sq,ih];rfl
 refine znq (rns:=rns) hX hsel hT (jN hN) hok hn hfl htail hbx' (fun i oi hi hoi=>?_) (fun E' a' w' hs2=>?_) ops.size _ E a _ (by simp) (fun j _=>congrFun hfalse j) (by omega) ?_ (by rw[hfalse,hSq];exact hs)
 ·have:=h1 i oi (by rw[List.getElem?_take,if_pos hi,Array.getElem?_toList];exact hoi)
  rw[hds i (by omega)]at this
  exact this
 ·have hk:exU P T X w0 N ops ((ops.toList.drop n).take (ops.size - n)) R (Sq rs (fun j=>(ops[j]?).bind (·.dst)) S (fun _=>true) n):=by
   rw[List.take_of_length_le (by simp)];exact h2
  exact zbP hT (jN hN) (fun S' E' _ _ hq hs=>⟨rfl,S',E',hq,hs⟩) (ops.size - n) n hk hs2
 ·rw[hfalse]
  intro j o _ h
  cases h
end
end
end Go.Dl
namespace Go.Proofs.YtbcbnfiedgnfpaaGreat
open Go.Dl
section
structure To (G H:Prop):Prop where
 p:H→G
structure NoI (G:Prop):Prop where
 p:G
theorem tr {G:Prop}:To G G:=⟨fun x=>x⟩
theorem zx3:Tryz.prog.follows .mixedOrders=true:=by rfl
def cF (o:Oper):FuncId:=match o.op with
 | .call c=>match c.callee with
  | .value (.func f)=>f
  | _=>0
 | _=>0
def cA (S:St) (o:Oper):List V:=match o.op with
 | .call c=>c.args.toList.map (ev S)
 | _=>[]
def cO (o:Oper):Bool:=match o.op with
 | .call c=>match c.callee with
  | .value (.func _)=>true
  | _=>false
 | _=>false
theorem zCE {o:Oper} (h:cO o=true): ∃c,o.op= .call c∧c.callee= .value (.func (cF o))∧∀S,cA S o=c.args.toList.map (ev S):=by
 unfold cO at h
 split at h
 ·rename_i c hc
  split at h
  ·rename_i f hf
   exact⟨c,hc,by simp[cF,hc,hf],fun S=>by simp[cA,hc]⟩
  ·cases h
 ·cases h
section
variable {G H:Prop} {X:Fr} {w0:World} {N:Nat} {S:St} {Q:Exit→St→Prop} {R:St→Prop} {ops:Array Oper} {id:Nat} {o:Oper} {K:St→Prop} {f:FuncId}
theorem tdw {c:Code} (h:To (DW Tryz.prog X w0 N c Q S) H):To (DW Tryz.prog X w0 N c Q S) H:=h
theorem tdy {I:Nat→Prop} {J:YJ} {k:Option Nat} {QY:Exit→Option Nat→St→Prop} {c:Code} (h:To (DY Tryz.prog I J N c QY k S) H):To (DY Tryz.prog I J N c QY k S) H:=h
theorem ne (q:H) (e:To (G) H:=by first
 |(with_reducible first|apply tdw|apply tdy);first|(simp only[hb];exact tr)|exact tr
 |(simp only[push_cast,seval, *];exact tr)
 |exact tr):G:=e.p q
theorem lat (q:H) (e:To (K S) H:=by first|(simp only[push_cast,seval, *];exact tr)|exact tr):zky K S:=e.p q
theorem cal {res:V} (hc:zu Tryz.prog (cF o) (cA S o) res) (q:H) (ho:cO o=true:=by rfl) (ha:zc8 (cA S o)=true:=by rfl) (e:To (K ⟨qh S.slots o.dst res,S.blks,S.arrs⟩) H:=by first|(simp only[push_cast,seval, *];exact tr)|exact tr):yE Tryz.prog X w0 N o K S:=by
 obtain⟨c,h1,h2,h3⟩:=zCE ho
 rw[h3]at hc ha
 exact za h1 h2 hc ha (e.p q)
theorem cav {c:Call} {vs:List V} {res:V} (hc:zu Tryz.prog f vs res) (q:H) (hop:o.op= .call c:=by rfl) (hf:zeR S c=some (f,vs):=by rfl) (ha:zc8 vs=true:=by rfl) (e:To (K ⟨qh S.slots o.dst res,S.blks,S.arrs⟩) H:=by first|(simp only[push_cast,seval, *];exact tr)|exact tr):yE Tryz.prog X w0 N o K S:=
 Zv hop hf hc (zq ha) (e.p q)
theorem cad {ys:List V} {res:V} {s:V→St} (hc:zu Tryz.prog f ys res) (q:H) (ha:zc8 ys=true:=by rfl) (e:To (K (s res)) H:=by first|(simp only[push_cast,seval, *];exact tr)|exact tr): ∃xs r,zu Tryz.prog f xs r∧zc9 ys xs∧zky K (s r):=
 ⟨_,_,hc,zq ha,e.p q⟩
theorem cld {c:Call} {ys:List V} {r:Value} (hc:zu Tryz.prog f ys (.c (.f (.s r)))) (q:H) (hop:o.op= .call c:=by rfl) (hf:c.callee= .value (.func f):=by rfl) (ha:zbi S.arrs (c.args.toList.map (ev S)) ys:=by simp[zbi,qz,JX,ev,vle,cle,yT,ja,zam,zac,lkR,zbl]<;>fail)
  (e:To (K ⟨qh S.slots o.dst (.c (.f (.s r))),S.blks,S.arrs⟩) H:=by first|(simp only[push_cast,seval, *];exact tr)|exact tr):yE Tryz.prog X w0 N o K S:=zgh hop hf hc ha (e.p q)
theorem cM (bm am:List (Nat×Nat)) {c:Call} {vs:List V} {args:List V} {bl:BL} {al:RL} {res:V} {bl':BL} {al':RL} (hc:zA Tryz.prog f args bl al res bl' al') (q:H) (hop:o.op= .call c:=by rfl) (hf:zeR S c=some (f,vs):=by rfl)
  (h1:zaH bm=true:=by rfl) (h2:zaH am=true:=by rfl) (hcB:zcW bm bl'=true:=by rfl) (hcA:zcW am al'=true:=by rfl) (ha:mvs bm am vs args:=by simp<;>fail) (hbl:ztU bm am S.blks bl:=by simp<;>fail) (hal:zsV am S.arrs al:=by simp<;>fail)
  (hfB:zbs (bl.map (·.1)) S.blks bm:=by simp<;>fail) (hfA:zbs (al.map (·.1)) S.arrs am:=by simp<;>fail)
  (e:To (K ⟨qh (fun t=>kV (am.map (·.2)) (S.slots t)) o.dst (rnV bm am res),upL (fun t=>kB (am.map (·.2)) (S.blks t)) (znT bm am bl'),upL (kA (am.map (·.2)) S.arrs) (znR am al')⟩) H:=by first|(simp only[push_cast,seval, *];exact tr)|exact tr):yE Tryz.prog X w0 N o K S:=
 zt hop hf bm am hc h1 h2 hcB hcA ha hbl hal hfB hfA (e.p q)
theorem rdb (bx:List Nat) (q:H) (hN:okN N ops=true:=by decide) (hok:okD ops=true:=by decide+kernel) (hbx:zfk ops=bx:=by rfl) (e:To (exB Tryz.prog (yW TT) ops bx ops.toList R S) H:=by first|(simp only[push_cast,seval, *];exact tr)|exact tr):DW Tryz.prog X w0 N (.region id ops true) (zr R Q) S:=
 zv bx hT zx3 hN hok hbx (e.p q)
theorem rex (bx:List Nat) (q:H) (hN:okN N ops=true:=by decide) (hok:ztH true ops=true:=by decide+kernel) (hbx:zfk ops=bx:=by rfl) (e:To (exE Tryz.prog (yW TT) ops bx ops.toList [] (zAz ops R) S) H:=by first|(simp only[push_cast,seval, *];exact tr)|exact tr):DW Tryz.prog X w0 N (.region id ops true) (zr R Q) S:=
 zT bx hT zx3 hN hok hbx (e.p q)
theorem rtl (n:Nat) (bx:List Nat) (q:H) (hN:okN N ops=true:=by decide) (hok:okD ops=true:=by decide+kernel) (hn:n<ops.size:=by decide) (ht:zdL ops n=true:=by decide+kernel) (hbx:zfk ops=bx:=by rfl)
  (e:To (exB Tryz.prog (yW TT) ops bx (ops.toList.take n) (fun S'=>zky (exU Tryz.prog (yW TT) X w0 N ops (ops.toList.drop n) R) S') S) H:=by first|(simp only[push_cast,seval, *];exact tr)|exact tr):DW Tryz.prog X w0 N (.region id ops true) (zr R Q) S:=jy n bx hT zx3 hN hok hn ht hbx (e.p q)
theorem rtf (n:Nat) (fl bx:List Nat) (q:H) (hX:X.rd=none:=by rfl) (hN:okN N ops=true:=by decide) (hok:okD ops=true:=by decide+kernel) (hn:n<ops.size:=by decide) (hsel:Region.noSelect ops=true:=by decide+kernel) (hfl:(fl.all fun i=>zaV ops n i)=true:=by decide+kernel) (ht:zeP ops n fl=true:=by decide+kernel) (hbx:zfk ops=bx:=by rfl)
  (e:To (exB Tryz.prog (yW TT) ops bx (ops.toList.take n) (fun S'=>zky (exU Tryz.prog (yW TT) X w0 N ops (ops.toList.drop n) R) S') S) H:=by first|(simp only[push_cast,seval, *];exact tr)|exact tr):DW Tryz.prog X w0 N (.region id ops true) (zr R Q) S:=Z0 n fl bx hX hT zx3 hN hok hn hsel hfl ht hbx (e.p q)
theorem zCS {W:(St→Prop)→Prop} (hN:okN N ops=true) (e: ∀R:St→Prop,To (exU Tryz.prog (yW TT) X w0 N ops ops.toList R S) (W R)) (h: ∀R:St→Prop,qD R (Q .normal)→W R):DW Tryz.prog X w0 N (.region id ops false) Q S:=
 zx hN fun R hR=>(e R).p (h R hR)
theorem zaI {T:Nat→Option Ty} {rs:List ResultVar} {res:V} {e:Exit} (h:To (qF T rs res e S) H):H→qF T rs res e S:=h.p
structure Cnd (b:Bool) (A B:Prop):Prop where
 t:b=true→A
 f:b=false→B
theorem cnd {c:Operand} {x y:Code} {b:Bool} (hc:ev S c= .c (.f (.s (.bool b)))) (h:Cnd b (DW Tryz.prog X w0 N x Q S) (DW Tryz.prog X w0 N y Q S)):DW Tryz.prog X w0 N (.cond c x y) Q S:=zg hc h.t h.f
theorem s1 (q:H) (h:H→G:=by first
 |with_reducible exact NoI.mk
 |exact zl ‹_›
 |exact zm (by decide+kernel)
 |(intro q;dsimp only[zr,zd,zi,zw];exact q)
 |(intro q;with_reducible refine zn ?_;exact To.p (by simp only[push_cast,seval];exact tr) q)):G:=h q
theorem s2 (q:H) (h:H→G:=by first
 |(intro q;with_reducible refine And.intro ?_ (NoI.p q);clear q;first|omega|(constructor<;>omega)|(unfold maxLen;omega)|(simp only[List.length_append,List.length_map,List.length_cons,List.length_nil,List.length_take,List.length_drop,maxLen];omega)|(unfold maxLen;simp<;>omega))
 |with_reducible exact zf
 |with_reducible exact zG
 |exact zCS (by decide) (by intro R;first|(simp only[push_cast,seval, *];exact tr)|exact tr)
 |exact zc rfl
 |exact zb rfl
 |exact cnd rfl):G:=h q
theorem spl {A B:Prop} (a:A) (b:B) (h:A→B→G:=by with_reducible first|exact zF|exact zj|exact Cnd.mk):G:=h a b
section
variable {I:Nat→Prop} {J:YJ} {k:Option Nat} {RY:Option Nat→St→Prop} {QY:Exit→Option Nat→St→Prop}
theorem zCI (hJ:zdR J) (hN:okN N ops=true) (e:To (exY Tryz.prog (yW TT) I J N ops ops.toList RY k S) H):NoI H→DY Tryz.prog I J N (.region id ops false) (Zf RY QY) k S:=fun q=>dy_rowY hJ hT hN (e.p q.p)
theorem zCH {W:(Option Nat→St→Prop)→Prop} (hJ:zdR J) (hN:okN N ops=true) (e: ∀R,To (exY Tryz.prog (yW TT) I J N ops ops.toList R k S) (W R)):(∀R,zr1 R (QY .normal)→W R)→DY Tryz.prog I J N (.region id ops false) QY k S:=fun h=>jw fun R hR=>dy_rowY hJ hT hN ((e R).p (h R hR))
theorem zDf {c:Operand} {x y:Code} {b:Bool} (hc:ev S c= .c (.f (.s (.bool b)))) (h:Cnd b (DY Tryz.prog I J N x QY k S) (DY Tryz.prog I J N y QY k S)):DY Tryz.prog I J N (.cond c x y) QY k S:=Zl hc h.t h.f
theorem t1 (q:H) (h:H→G:=by first
 |with_reducible exact NoI.mk
 |exact ZC ‹_›
 |(intro q;dsimp only[Zf,yB,QA,J8];exact q)):G:=h q
theorem t2 (q:H) (h:H→G:=by first
 |(intro q;with_reducible refine And.intro ?_ (NoI.p q);clear q;first|omega|(constructor<;>omega)|(unfold maxLen;omega)|(simp only[List.length_append,List.length_map,List.length_cons,List.length_nil,List.length_take,List.length_drop,maxLen];omega)|(unfold maxLen;simp<;>omega))
 |with_reducible exact Zj
 |with_reducible exact jP
 |with_reducible exact ZO
 |with_reducible exact ZX
 |with_reducible exact YN
 |exact zCI ‹_› (by decide) (by first|(simp only[push_cast,seval, *];exact tr)|exact tr)
 |exact y9 rfl
 |exact y7 rfl
 |exact zDf rfl
 |exact zCH ‹_› (by decide) (by intro R;first|(simp only[push_cast,seval, *];exact tr)|exact tr)):G:=h q
end
theorem zgC (t a:Nat) (e:TypeId) (k:Nat) {c:Code} (q:DW Tryz.prog X w0 N c Q ⟨ja S.slots t (.c (.o a)),S.blks,fun c=>if c=a then some (e,k,[])else S.arrs c⟩) (h:S.slots t= .c (.f (.s (.slice none 0 0))):=by rfl) (ha:S.arrs a=none:=by rfl):DW Tryz.prog X w0 N c Q S:=zB (qZ t a e k h ha) q
theorem fzx (t:Nat) {e:TypeId} {cs:List C} {r:List F} {c:Code} (q:DW Tryz.prog X w0 N c Q ⟨fun j=>fzV t r (S.slots j),fun j=>if j=t then none else S.blks j,S.arrs⟩) (h:S.blks t=some (e,cs):=by rfl) (hr:frz cs=some r:=by rfl) (hX:(X.B0.all fun k=>k !=t)=true:=by rfl):DW Tryz.prog X w0 N c Q S:=zB (zV h hr hX) q
theorem fnx {A B:Prop} {ι:Type} {J W:ι→Prop} (x:ι) (hA:A) (hJ:J x) (hW:W x:=by(refine zp rfl ?_ ?_ ?_<;>simp<;>simp[*]<;>fail)) (hB:B:=by simp only[push_cast,seval, *]<;>fail):A∧B∧∃x',J x'∧W x':=⟨hA,hB,x,hJ,hW⟩
theorem rnx {B:Prop} {ι:Type} {J W:ι→Prop} (x:ι) (hJ:J x) (hW:W x:=by(refine zp rfl ?_ ?_ ?_<;>simp<;>simp[*]<;>fail)) (hB:B:=by simp only[push_cast,seval, *]<;>fail):B∧∃x',J x'∧W x':=⟨hB,x,hJ,hW⟩
section
variable {ι:Type} {r1 r2 tI tN tC t2 ta tb:Nat} {ty ty2 y1 y2 y3:TypeId} {p1 p2 p3:String} {a1 a2 a3:Array Edge} {B C:Code}
theorem rgx (n:Nat) (I:Nat→ι→St) (J:Nat→ι→Prop) (x0:ι) (hJ:J 0 x0)
  (hB: ∀k x,J k x→k<n→DW Tryz.prog X w0 N B (zi id tI t2 .i64 k X (fun S'=>∃x',J (k+1) x'∧zY X S' (I (k+1) x')) Q) ⟨ja (I k x).slots tC (.c (.f (.s (.bool true)))),(I k x).blks,(I k x).arrs⟩)
  (hE: ∀x,J n x→Q .normal ⟨ja (I n x).slots tC (.c (.f (.s (.bool false)))),(I n x).blks,(I n x).arrs⟩)
  (hn:n<9223372036854775807:=by omega) (hN:tC<N∧t2<N∧tI<N:=by decide) (hI: ∀k x,(I k x).slots tI= .c (.f (.s (.int .i64 k)))∧(I k x).slots tN= .c (.f (.s (.int .i64 n))):=by intro k x;exact⟨by rfl,by rfl⟩) (h0:zY X S (I 0 x0):=by(refine zp rfl ?_ ?_ ?_<;>simp<;>simp[*]<;>fail)):
  DW Tryz.prog X w0 N (.block id (.loop (.seq (.region r1 #[⟨some tC,.binOp .lss ty (.tmp tI) (.tmp tN) ty2,y1,p1,a1,none⟩] false) (.seq (.cond (.tmp tC) .skip (.exit id)) (.seq B (.region r2 #[⟨some t2,.binOp .add ty (.tmp tI) (.const (.int .i64 1)) ty2,y2,p2,a2,none⟩,⟨some tI,.move (.tmp t2),y3,p3,a3,none⟩] false)))))) Q S:=
 qc n I J x0 hn hT hN hI h0 hJ hB hE
theorem frx (n:Nat) (I:Nat→ι→St) (J:Nat→ι→Prop) (x0:ι) (hJ:J 0 x0)
  (hB: ∀k x,J k x→k≤n→∀R,qD R (DW Tryz.prog X w0 N B (zw id tI ta tb n k (fun S'=>∃x',J (k+1) x'∧zY X S' (I (k+1) x')) Q))→DW Tryz.prog X w0 N C (zr R (zw id tI ta tb n k (fun S'=>∃x',J (k+1) x'∧zY X S' (I (k+1) x')) Q)) (I k x))
  (hn:n<9223372036854775807:=by omega) (hN:ta<N∧tb<N∧tI<N:=by decide) (h0:zY X S (I 0 x0):=by(refine zp rfl ?_ ?_ ?_<;>simp<;>simp[*]<;>fail)):
  DW Tryz.prog X w0 N (.block id (.loop (.seq C (.seq B (.region r2 #[⟨some ta,.move (.tmp tI),y1,p1,a1,none⟩,⟨some tb,.binOp .add ty (.tmp ta) (.const (.int .i64 1)) ty2,y2,p2,a2,none⟩,⟨some tI,.assign (.tmp tb),y3,p3,a3,none⟩] false))))) Q S:=
 z4 n I J x0 hn hT hN h0 hJ hB
end
theorem fmx {T:Nat→Option Ty} {rs:List ResultVar} {res:V} {bl:BL} {al:RL} {e:Exit} (am:List (Nat×Nat)) (h:z9 T rs res bl al am S:=by first|(simp[*]<;>fail)|(simp only[z9,zS,z7,zN,zM,zD,zE,push_cast,seval];simp[*]<;>fail)) (he:e= .ret∨e= .normal:=by first|exact .inl rfl|exact .inr rfl):zAf T rs res bl al e S:=by
 rcases he with rfl|rfl
 ·exact zI am h
 ·exact zJ am h
theorem enx {fn:Func} {c:Code} {args:List V} {res:V} (rs:List ResultVar) (hf:Tryz.prog.funcs[f]? =some fn) (h: ∀I0 w0,DW Tryz.prog (Fr.pure I0) w0 fn.ntmps c (qF (yW TT) rs res) ⟨fun t=>lkA t args,fun t=>YX t [],zbl⟩) (hb:fn.body=some c:=by rfl) (hn:(fn.name== "runtime.NumGoroutine")=false:=by decide) (ha:Nat.ble args.length fn.ntmps=true:=by rfl) (hrs:fn.results.toList=rs:=by rfl):zu Tryz.prog f args res:=
 zh hT rs hf hb hn (Nat.le_of_ble_eq_true ha) hrs h
theorem emx {fn:Func} {c:Code} {args:List V} {bl:BL} {al:RL} {res:V} {bl':BL} {al':RL} (rs:List ResultVar) (hf:Tryz.prog.funcs[f]? =some fn) (h: ∀XX I0 G w0,DW Tryz.prog ⟨XX,I0,bl.map (·.1),G,none,false⟩ w0 fn.ntmps c (zAf (yW TT) rs res bl' al') ⟨fun t=>lkA t args,fun t=>YX t bl,fun a=>lkR a al⟩)
  (hb:fn.body=some c:=by rfl) (hn:(fn.name== "runtime.NumGoroutine")=false:=by decide) (ha:Nat.ble args.length fn.ntmps=true:=by rfl) (hrs:fn.results.toList=rs:=by rfl) (hnm:((bl.map (·.1)).all fun t=>(YX t bl').isSome)=true:=by rfl):zA Tryz.prog f args bl al res bl' al':=
 zC hT rs hf hb hn (Nat.le_of_ble_eq_true ha) hrs hnm h
theorem gz (q:H) (e:To G H:=by first|(simp only[List.take_zero,List.drop_zero,List.take_length,List.drop_length];exact tr)|exact tr):G:=e.p q
end
end
end Go.Proofs.YtbcbnfiedgnfpaaGreat
section
namespace Go.Dl
theorem zvf {α:Type} {f:α→List F} {l:List α} {k:Nat} (h:k<l.length):(l.map f).getD k []=f l[k]:=by simp[List.getD_eq_getElem?_getD,List.getElem?_eq_getElem h]
attribute [push_cast] Int.toNat_natCast zvf Int.natCast_nonneg Int.ofNat_lt
end Go.Dl
namespace Go.Proofs.YtbcbnfiedgnfpaaGreat
open Go.Dl
set_option maxRecDepth 100000
set_option maxHeartbeats 2000000
attribute [local irreducible] DW yE zY zA zu zky
attribute [local push_cast] zZ qF qC zN zM zD zE qH qE qz Go.Dl.qY yT qy List.mem_cons List.not_mem_nil or_false forall_eq false_implies implies_true
abbrev eI (n:Int):F:=.s (.int .i64 n)
abbrev eB (b:Bool):F:=.s (.bool b)
abbrev eS (s:ByteArray):F:=.s (.string s)
abbrev gI (n:Int):V:=.c (.f (eI n))
abbrev gB (b:Bool):V:=.c (.f (eB b))
abbrev gS (s:ByteArray):V:=.c (.f (eS s))
def Z3 (n:Int):List F:=[eI n]
abbrev gZ (l:List Int):V:=.c (.f (.l 1 (l.map Z3)))
attribute [push_cast] Z3
def nodeB (n:Int):Bool:=decide (0≤n)&&decide (n<16)
theorem zfT (n:Int):zu Tryz.prog 141 [gI n] (gB (nodeB n)):=by
 refine enx [.tmp 2] Tryz.func141 fun X w0=>?_
 repeat'(first|(refine spl ?_ ?_<;>(intro hb;refine ne ?_))|(refine zl hR ?_;clear hR)|refine s1 ?_|exact True.intro|fail|(refine s2 ?_;try with_reducible intro R hR)|fail)
 all_goals grind[nodeB]
theorem zdV (n:Int):zu Tryz.prog 111 [gI n] (gB (nodeB n)):=by
 refine enx [.tmp 2] Tryz.func111 fun X w0=>?_
 repeat'(first|(refine spl ?_ ?_<;>(intro hb;refine ne ?_))|(refine zl hR ?_;clear hR)|refine s1 ?_|exact True.intro|fail|(refine s2 ?_;try with_reducible intro R hR)|fail)
 all_goals grind[nodeB]
def yX:List Int→Int→Int
 |[],_=>-1
 |x::l,v=>if x=v then 0 else if yX l v<0 then -1 else yX l v+1
theorem JN: ∀(l:List Int) (v:Int),-1≤yX l v∧yX l v<l.length
 |[],v=>by simp[yX]
 |x::l,v=>by have:=JN l v;simp only[yX,List.length_cons];grind
def upZ (k:Nat) (r:Int):Int:=if r<0 then -1 else r+k
theorem zkr (l:List Int) (v:Int):upZ 0 (yX l v)=yX l v:=by have:=JN l v;unfold upZ;grind
theorem zP {α:Type} {l:List α} {k:Nat} (h:k<l.length):l.drop k=l[k]::l.drop (k+1):=List.drop_eq_getElem_cons h
theorem zct {l:List Int} {v:Int}:v∈l↔0≤yX l v:=by
 induction l with
 |nil=>simp[yX]
 |cons x l ih=>simp only[yX,List.mem_cons];grind
theorem zoM (l:List Int) (v:Int) (hl:l.length<9223372036854775807):zu Tryz.prog 196 [gZ l,gI v] (gI (yX l v)):=by
 refine enx [.tmp 4] Tryz.func196 fun X w0=>?_
 repeat'(first|(refine spl ?_ ?_<;>(intro hb;refine ne ?_))|(refine zl hR ?_;clear hR)|refine s1 ?_|exact True.intro|((with_reducible refine zW ?_);refine rgx (ι:=Unit) (l.length) (fun k _=>St.ofA [(0,gZ l),(1,gI v),(7,gI l.length),(8,gI k)] [] []) (fun k _=>yX l v=upZ k (yX (l.drop k) v)) () ?_ (fun k x hJ hk=>?_) (fun x hJ=>?_))|refine rnx (()) ?_|(refine s2 ?_;try with_reducible intro R hR)|fail)
 all_goals try simp only[List.drop_zero,zkr]
 all_goals grind[yX,upZ,zP,JN]
theorem ze4 (l:List Int) (v:Int) (hl:l.length<9223372036854775807):zu Tryz.prog 129 [gZ l,gI v] (gB (decide (v∈l))):=by
 refine enx [.tmp 4] Tryz.func129 fun X w0=>?_
 repeat'(first|(refine spl ?_ ?_<;>(intro hb;refine ne ?_))|(refine zl hR ?_;clear hR)|refine s1 ?_|exact True.intro|refine cal (zoM _ _ (by omega)) ?_|(refine s2 ?_;try with_reducible intro R hR)|fail)
 all_goals grind[=zct]
theorem zig (l:List Int) (v:Int) (hl:l.length<9223372036854775807):zu Tryz.prog 58 [gZ l,gI v] (gB (decide (v∈l))):=by
 refine enx [.tmp 4] Tryz.func58 fun X w0=>?_
 repeat'(first|(refine spl ?_ ?_<;>(intro hb;refine ne ?_))|(refine zl hR ?_;clear hR)|refine s1 ?_|exact True.intro|refine cal (ze4 _ _ (by omega)) ?_|(refine s2 ?_;try with_reducible intro R hR)|fail)
 all_goals grind
theorem zdn (l:List Int) (v:Int) (hl:l.length<9223372036854775807):zu Tryz.prog 112 [gZ l,gI v] (gI (yX l v)):=by
 refine enx [.tmp 4] Tryz.func112 fun X w0=>?_
 repeat'(first|(refine spl ?_ ?_<;>(intro hb;refine ne ?_))|(refine zl hR ?_;clear hR)|refine s1 ?_|exact True.intro|((with_reducible refine zO ?_);refine frx (ι:=Unit) (l.length) (fun k _=>St.ofA [(0,gZ l),(1,gI v),(5,gI k)] [] []) (fun k _=>yX l v=upZ k (yX (l.drop k) v)) () ?_ (fun k x hJ hk R hR=>?_))|refine fnx (()) ?_ ?_|(refine s2 ?_;try with_reducible intro R hR)|fail)
 all_goals try simp only[List.drop_zero,zkr]
 all_goals grind[yX,upZ,zP,JN]
theorem Qi (l:List Int) (v:Int) (hl:l.length<9223372036854775807):zu Tryz.prog 51 [gZ l,gI v] (gB (decide (v∈l))):=by
 refine enx [.tmp 4] Tryz.func51 fun X w0=>?_
 repeat'(first|(refine spl ?_ ?_<;>(intro hb;refine ne ?_))|(refine zl hR ?_;clear hR)|refine s1 ?_|exact True.intro|refine cal (zdn _ _ (by omega)) ?_|(refine s2 ?_;try with_reducible intro R hR)|fail)
 all_goals grind[=zct]
end Go.Proofs.YtbcbnfiedgnfpaaGreat
end
section
namespace Go.Dl
theorem zta {α:Type} {f:α→List F} {l:List α} {k:Nat}:(l.map f).take k=(l.take k).map f:=List.map_take.symm
theorem zsn {α:Type} {f:α→List F} {l:List α} {k:Nat}:(l.map f).drop k=(l.drop k).map f:=List.map_drop.symm
theorem zwa {α:Type} {f:α→List F} {l m:List α}:l.map f++m.map f=(l++m).map f:=List.map_append.symm
theorem qJ {α:Type} {l:List α} {k:Nat} (h:k<l.length):l.take (k+1)=l.take k++[l[k]]:=by simp
attribute [push_cast] zta zsn zwa
end Go.Dl
namespace Go.Proofs.YtbcbnfiedgnfpaaGreat
open Go.Dl
set_option maxRecDepth 100000
set_option maxHeartbeats 2000000
attribute [local irreducible] DW yE zY zA zu zky
attribute [local push_cast] zZ qF qC zN zM zD zE qH qE qz Go.Dl.qY yT qy List.mem_cons List.not_mem_nil or_false forall_eq false_implies implies_true
theorem zs3 (l:List Int) (hl:l.length*8≤140737488355328):zu Tryz.prog 122 [gZ l] (gZ l):=by
 refine enx [.tmp 2] Tryz.func122 fun X w0=>?_
 repeat'(first|(refine spl ?_ ?_<;>(intro hb;refine ne ?_))|(refine zl hR ?_;clear hR)|refine s1 ?_|exact True.intro|(refine jU (by rfl) hT znB (by rfl) (by rfl) (fun c hc=>?_);cases c<;>try simp only[push_cast,seval, *])|(refine j7 (by rfl) hT znB (by rfl) (by rfl) (by rfl) ?_;simp only[push_cast,seval, *])|(refine s2 ?_;try with_reducible intro R hR)|fail)
 all_goals grind
theorem znL (l:List Int) (hl:l.length*8≤140737488355328):zu Tryz.prog 235 [gZ l] (gZ l):=by
 refine enx [.tmp 2] Tryz.func235 fun X w0=>?_
 repeat'(first|(refine spl ?_ ?_<;>(intro hb;refine ne ?_))|(refine zl hR ?_;clear hR)|refine s1 ?_|exact True.intro|fail|(refine s2 ?_;try with_reducible intro R hR)|fail)
def zaE (id:Int):List Int→List Int→Bool
 | _,[]=>true
 |pre,v::l=>nodeB v&&decide (v≠id)&& !decide (v∈pre)&&zaE id (pre++[v]) l
def wantB (id:Int) (l:List Int) (turn:Int):Bool:=nodeB id&&decide (l.length≤6)&&decide (0≤turn)&&(decide (turn=0)||decide (turn<l.length))&&zaE id [] l
theorem zij (id:Int) (l:List Int) (turn:Int) (hl:l.length<9223372036854775807):zu Tryz.prog 82 [gI id,gZ l,gI turn] (gB (wantB id l turn)):=by
 refine enx [.tmp 6] Tryz.func82 fun X w0=>?_
 repeat'(first|(refine spl ?_ ?_<;>(intro hb;refine ne ?_))|(refine zl hR ?_;clear hR)|refine s1 ?_|exact True.intro|refine cal (zfT _) ?_|refine cal (ze4 _ _ (by grind)) ?_|((with_reducible refine zW ?_);refine rgx (ι:=Unit) (l.length) (fun k _=>St.ofA [(0,gI id),(1,gZ l),(31,gZ l),(32,gI l.length),(33,gI k)] [] []) (fun k _=>zaE id [] l=zaE id (l.take k) (l.drop k)) () ?_ (fun k x hJ hk=>?_) (fun x hJ=>?_))|refine rnx (()) ?_|(refine s2 ?_;try with_reducible intro R hR)|fail)
 all_goals(refine gz ?_;grind[wantB,zaE,zP,qJ])
theorem zj4: ∀(l:List Int) (k:Nat) (h:k<l.length),(yX l l[k]=k↔l[k]∉l.take k)
 |x::l,0,h=>by simp[yX]
 | x::l,k+1,h=>by
  have ih:=zj4 l k (by simpa using h)
  have h1:(x::l)[k+1]=l[k]'(by simpa using h):=rfl
  have hm:l[k]'(by simpa using h)∈l:=List.getElem_mem _
  have h2:=(zct (l:=l)).1 hm
  rw[h1]
  simp only[yX,List.take_succ_cons,List.mem_cons,not_or]
  by_cases hx:x=l[k]'(by simpa using h)
  ·simp only[hx,if_true];constructor
   ·intro h3;omega
   ·intro h3;exact absurd trivial h3.1
  ·have hx': ¬l[k]'(by simpa using h)=x:=fun e=>hx e.symm
   rw[if_neg hx,if_neg (by omega)]
   constructor
   ·intro h3;exact⟨hx',ih.1 (by omega)⟩
   ·intro h3;have:=ih.2 h3.2;omega
theorem zeW (id:Int) (l:List Int) (turn:Int) (hl:l.length<9223372036854775807):zu Tryz.prog 46 [gI id,gZ l,gI turn] (gB (wantB id l turn)):=by
 refine enx [.tmp 6] Tryz.func46 fun X w0=>?_
 repeat'(first|(refine spl ?_ ?_<;>(intro hb;refine ne ?_))|(refine zl hR ?_;clear hR)|refine s1 ?_|exact True.intro|refine cal (zdV _) ?_|refine cal (zdn _ _ (by omega)) ?_|((with_reducible refine zO ?_);refine frx (ι:=Unit) (l.length) (fun k _=>St.ofA [(0,gI id),(1,gZ l),(7,gI k)] [] []) (fun k _=>zaE id [] l=zaE id (l.take k) (l.drop k)) () ?_ (fun k x hJ hk R hR=>?_))|refine fnx (()) ?_ ?_|(refine s2 ?_;try with_reducible intro R hR)|fail)
 all_goals(refine gz ?_;grind[wantB,zaE,zP,qJ,zj4])
def JU (id:Int) (l:List Int) (v:Int):List Int×Int:=
 if nodeB v=false then(l,40)else if v=id then(l,41)else if v∈l then(l,42)else if 6≤l.length then(l,43)else(l++[v],0)
abbrev rZI (x:List Int×Int):V:=.tup [(false,[.f (.l 1 (x.1.map Z3))]),(false,[.f (eI x.2)])]
theorem zgl (l:List Int) (hl:l.length*8≤140737488355328):zA Tryz.prog 122 [gZ l] [] [] (.c (.o 0)) [] [(0,3,1,l.map Z3)]:=by
 refine emx [.tmp 2] Tryz.func122 fun XX X G w0=>?_
 repeat'(first|(refine spl ?_ ?_<;>(intro hb;refine ne ?_))|(refine zl hR ?_;clear hR)|refine s1 ?_|exact True.intro|(refine jU (by rfl) hT znB (by rfl) (by rfl) (fun c hc=>?_);cases c<;>try simp only[push_cast,seval, *])|(refine j7 (by rfl) hT znB (by rfl) (by rfl) (by rfl) ?_;simp only[push_cast,seval, *])|(refine Jo 2 9 3 1 (by rfl) (by rfl) ?_)|(refine s2 ?_;try with_reducible intro R hR)|fail)
 ·exact fmx [(0,7)]
 ·exact fmx [(0,9)]
theorem znE (id:Int) (l:List Int) (v:Int) (hl:l.length*8+8≤140737488355328):zu Tryz.prog 70 [gI id,gZ l,gI v] (rZI (JU id l v)):=by
 refine enx [.tmp 6,.tmp 7] Tryz.func70 fun X w0=>?_
 repeat'(first|(refine spl ?_ ?_<;>(intro hb;refine ne ?_))|(refine zl hR ?_;clear hR)|refine s1 ?_|exact True.intro|refine cal (zfT _) ?_|refine cM [] [(0,10)] (zgl l (by omega)) ?_|refine cal (zig _ _ (by omega)) ?_|(refine s2 ?_;try with_reducible intro R hR)|fail)
 all_goals(refine gz ?_;grind[JU,Z3])
theorem znm (l:List Int) (hl:l.length*8≤140737488355328):zA Tryz.prog 235 [gZ l] [] [] (.c (.o 0)) [] [(0,3,1,l.map Z3)]:=by
 refine emx [.tmp 2] Tryz.func235 fun XX X G w0=>?_
 repeat'(first|(refine spl ?_ ?_<;>(intro hb;refine ne ?_))|(refine zl hR ?_;clear hR)|refine s1 ?_|exact True.intro|exact fmx [(0,6)]|(refine s2 ?_;try with_reducible intro R hR)|fail)
theorem zkc (id:Int) (l:List Int) (v:Int) (hl:l.length*8+8≤140737488355328):zu Tryz.prog 169 [gI id,gZ l,gI v] (rZI (JU id l v)):=by
 refine enx [.tmp 6,.tmp 7] Tryz.func169 fun X w0=>?_
 repeat'(first|(refine spl ?_ ?_<;>(intro hb;refine ne ?_))|(refine zl hR ?_;clear hR)|refine s1 ?_|exact True.intro|refine cal (zdV _) ?_|refine cM [] [(0,10)] (znm l (by omega)) ?_|refine cld (Qi l v (by omega)) ?_|(refine s2 ?_;try with_reducible intro R hR)|fail)
 all_goals(refine gz ?_;grind[JU,Z3])
end Go.Proofs.YtbcbnfiedgnfpaaGreat
end
namespace Go.Proofs.YtbcbnfiedgnfpaaGreat
open Go.Dl
attribute [local irreducible] DW yE zY zA zu zky
attribute [local push_cast] zZ qF qC zN zM zD zE qH qE qz Go.Dl.qY yT qy List.mem_cons List.not_mem_nil or_false forall_eq false_implies implies_true
def zfF (c:UInt8):Bool:=(decide (97≤(c.toNat:Int))&&decide ((c.toNat:Int)≤122))||(decide (48≤(c.toNat:Int))&&decide ((c.toNat:Int)≤57))||decide ((c.toNat:Int)=95)
def ZP (l:List UInt8):Bool:=l.all zfF
theorem Ya:ZP []=true:=rfl
theorem Qq (c:UInt8) (l:List UInt8):ZP (c::l)=(zfF c&&ZP l):=rfl
theorem J9 {s:ByteArray} {k:Nat} (h:k<s.size):s.data.toList.drop k=s.data.getD k 0::s.data.toList.drop (k+1):=by
 have h':k<s.data.toList.length:=by simpa using h
 rw[List.drop_eq_getElem_cons h']
 congr 1
 rw[Array.getD_eq_getD_getElem?,Array.getElem?_eq_getElem (by simpa using h)]
 rfl
theorem Jh {s:ByteArray}:s.data.toList.drop s.size=[]:=List.drop_of_length_le (by rw[Array.length_toList];exact Nat.le_refl _)
def jr (s:ByteArray):Bool:=decide (1≤(s.size:Int))&&decide ((s.size:Int)≤16)&&ZP s.data.toList
theorem zhJ (s:ByteArray):zu Tryz.prog 208 [gS s] (gB (jr s)):=by
 refine enx [.tmp 2] Tryz.func208 fun X w0=>?_
 repeat'(first|(refine spl ?_ ?_<;>(intro hb;refine ne ?_))|(refine zl hR ?_;clear hR)|refine s1 ?_|exact True.intro|((with_reducible refine zW ?_);refine rgx (ι:=Unit) (s.size) (fun k _=>St.ofA [(0,gS s),(14,gI s.size),(15,gI k)] [] []) (fun k _=>ZP s.data.toList=ZP (s.data.toList.drop k)) () ?_ (fun k x hJ hk=>?_) (fun x hJ=>?_))|refine rnx (()) ?_|(refine s2 ?_;try with_reducible intro R hR)|fail)
 all_goals(refine gz ?_;grind[jr,zfF,Ya,Qq,J9,Jh])
theorem zaf (s:ByteArray) (hl:s.size<9223372036854775807):zu Tryz.prog 257 [gS s] (gB (jr s)):=by
 refine enx [.tmp 2] Tryz.func257 fun X w0=>?_
 repeat'(first|(refine spl ?_ ?_<;>(intro hb;refine ne ?_))|(refine zl hR ?_;clear hR)|refine s1 ?_|exact True.intro|((with_reducible refine zO ?_);refine frx (ι:=Unit) (s.size) (fun k _=>St.ofA [(0,gS s),(3,gI k)] [] []) (fun k _=>ZP s.data.toList=ZP (s.data.toList.drop k)) () ?_ (fun k x hJ hk R hR=>?_))|refine fnx (()) ?_ ?_|(refine s2 ?_;try with_reducible intro R hR)|fail)
 all_goals(refine gz ?_;grind[jr,zfF,Ya,Qq,J9,Jh])
def zcQ (k:Int):Bool:=decide (1≤k)&&decide (k≤4)
def JF (k s:Int):Bool:=decide (1≤s)&&decide (s≤1048576)&&(!decide (k=4)||decide (s=1))
theorem zho (k:Int):zu Tryz.prog 209 [gI k] (gB (zcQ k)):=by
 refine enx [.tmp 2] Tryz.func209 fun X w0=>?_
 repeat'(first|(refine spl ?_ ?_<;>(intro hb;refine ne ?_))|(refine zl hR ?_;clear hR)|refine s1 ?_|exact True.intro|fail|(refine s2 ?_;try with_reducible intro R hR)|fail)
 all_goals(refine gz ?_;grind[zcQ])
theorem zd3 (k s:Int):zu Tryz.prog 210 [gI k,gI s] (gB (JF k s)):=by
 refine enx [.tmp 4] Tryz.func210 fun X w0=>?_
 repeat'(first|(refine spl ?_ ?_<;>(intro hb;refine ne ?_))|(refine zl hR ?_;clear hR)|refine s1 ?_|exact True.intro|fail|(refine s2 ?_;try with_reducible intro R hR)|fail)
 all_goals(refine gz ?_;grind[JF])
theorem zbt (k s:Int):zu Tryz.prog 258 [gI k,gI s] (gB (JF k s)):=by
 refine enx [.tmp 4] Tryz.func258 fun X w0=>?_
 repeat'(first|(refine spl ?_ ?_<;>(intro hb;refine ne ?_))|(refine zl hR ?_;clear hR)|refine s1 ?_|exact True.intro|fail|(refine s2 ?_;try with_reducible intro R hR)|fail)
 all_goals(refine gz ?_;grind[JF])
end Go.Proofs.YtbcbnfiedgnfpaaGreat
