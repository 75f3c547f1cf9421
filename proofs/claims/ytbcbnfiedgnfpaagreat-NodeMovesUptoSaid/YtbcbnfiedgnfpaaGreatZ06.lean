import Derived.Test.YtbcbnfiedgnfpaaGreatZ04
import Derived.Test.YtbcbnfiedgnfpaaGreatZ05
set_option linter.unusedSimpArgs false
set_option linter.unusedVariables false
set_option maxRecDepth 100000
set_option maxHeartbeats 2000000
section
namespace Go.Dl
theorem zjy:kC []=fun x=>x:=funext fun x=>by cases x<;>rfl
theorem zyN (x:V):kV [] x=x:=by
 cases x with
 |c x=>simp[kV,zjy]
 |agg xs=>simp[kV,zjy]
 |tup xs=>
  have:kP []=fun x=>x:=funext fun x=>by obtain⟨b,cs⟩:=x;simp[kP,zjy]
  simp[kV,this]
 | _=>rfl
theorem zzP (x:Option (TypeId×List C)):kB [] x=x:=by
 cases x with
 |none=>rfl
 |some y=>obtain⟨e,cs⟩:=y;simp[kB,zjy]
theorem zzD (f:Nat→Option (TypeId×Nat×List (List F))):kA [] f=f:=rfl
theorem zxq {α:Type} (f:Nat→Option α):upL f []=f:=rfl
theorem ztY {α:Type} (f:Nat→Option α) (t:Nat) (x:α) (r:List (Nat×α)):upL f ((t,x)::r)=ja (upL f r) t (some x):=rfl
section
variable {K:V→Prop}
theorem zzK {c:Bool}:QM K (.c (.f (.s (.bool c))))= ∀b,c=b→K (.c (.f (.s (.bool b)))):=rfl
theorem zz7 {k:IntKind} {n:Int}:QM K (.c (.f (.s (.int k n))))=K (.c (.f (.s (.int k n)))):=rfl
theorem zzB {x:ByteArray}:QM K (.c (.f (.s (.string x))))=K (.c (.f (.s (.string x)))):=rfl
theorem zwc {A:Option Addr} {n c:Nat}:QM K (.c (.f (.s (.slice A n c))))=K (.c (.f (.s (.slice A n c)))):=rfl
theorem zvN {f:Fn} {x y:Array Value}:QM K (.c (.f (.s (.func f x y))))=K (.c (.f (.s (.func f x y)))):=rfl
theorem zxx:QM K (.c (.f (.s .nilFunc)))=K (.c (.f (.s .nilFunc))):=rfl
theorem zwU {a:Option Addr}:QM K (.c (.f (.s (.pointer a))))=K (.c (.f (.s (.pointer a)))):=rfl
theorem zyP {k:Nat} {rows:List (List F)}:QM K (.c (.f (.l k rows)))=K (.c (.f (.l k rows))):=rfl
theorem zzi {a:Nat}:QM K (.c (.o a))=K (.c (.o a)):=rfl
theorem zwV:QM K (.c .un)=K (.c .un):=rfl
theorem zvm:QM K .un=K .un:=rfl
theorem zvZ:QM K .no=K .no:=rfl
theorem zuO {xs:List C}:QM K (.agg xs)=K (.agg xs):=rfl
theorem zrM {xs:List (Bool×List C)}:QM K (.tup xs)=K (.tup xs):=rfl
theorem zsl {t o:Nat}:QM K (.loc t o)=K (.loc t o):=rfl
theorem zxd {xs:List F}:QM K (.rd xs)=K (.rd xs):=rfl
theorem zwF {a k i o:Nat}:QM K (.el a k i o)=K (.el a k i o):=rfl
theorem zuk {f:FuncId} {x y:List W}:QM K (.clo f x y)=K (.clo f x y):=rfl
end
theorem zAP {p:Bool→Prop}:(∀b,true=b→p b)=p true:=propext ⟨fun h=>h _ rfl,fun h _ e=>e▸h⟩
theorem zBE {p:Bool→Prop}:(∀b,false=b→p b)=p false:=propext ⟨fun h=>h _ rfl,fun h _ e=>e▸h⟩
theorem zj {c:Bool} {p:Bool→Prop} (h1:c=true→p true) (h2:c=false→p false): ∀b,c=b→p b:=fun b e=>by
 cases b
 ·exact h2 e
 ·exact h1 e
structure Kt (R:St→Prop) (D:Unit→St→Prop):Prop where
 k: ∀S',D () S'→R S'
abbrev qD (R D:St→Prop):Prop:=Kt R fun _=>D
theorem zl {R D:St→Prop} {S:St} (h:qD R D) (hd:D S):R S:=h.k S hd
theorem zf {P:Program} {X:Fr} {w0:World} {N:Nat} {Q:Exit→St→Prop} {S:St} {x y:Code} (h: ∀R:St→Prop,qD R (DW P X w0 N y Q)→DW P X w0 N x (zr R Q) S):DW P X w0 N (.seq x y) Q S:=zjT fun R hR=>h R ⟨hR⟩
theorem zL {P:Program} {X:Fr} {w0:World} {N:Nat} {Q:Exit→St→Prop} {S:St} {c:Code} (h: ∀R:St→Prop,qD R (Q .normal)→DW P X w0 N c (zr R Q) S):DW P X w0 N c Q S:=zju (zqb fun R hR=>h R ⟨hR⟩)
def zw (id tI ta tb n k:Nat) (I:St→Prop) (Q:Exit→St→Prop):Exit→St→Prop
 | .normal,S=>k<n∧S.slots tI= .c (.f (.s (.int .i64 k)))∧I ⟨ja (ja (ja S.slots ta (.c (.f (.s (.int .i64 k))))) tb (.c (.f (.s (.int .i64 (k+1:Nat)))))) tI (.c (.f (.s (.int .i64 (k+1:Nat))))),S.blks,S.arrs⟩
 | .exit i,S=>if i=id then Q .normal S else Q (.exit i) S
 |e,S=>Q e S
section
variable {P:Program} {X:Fr} {w0:World} {N:Nat} {S:St} {T:Nat→Option Ty} {Q:Exit→St→Prop}
theorem z4 {ι:Type} (n:Nat) (I:Nat→ι→St) (J:Nat→ι→Prop) (x0:ι) {id r2 tI ta tb:Nat} {ty ty2 y1 y2 y3:TypeId} {p1 p2 p3:String} {a1 a2 a3:Array Edge} {H B:Code}
  (hn:n<9223372036854775807) (hT: ∀t y,T t=some y→q9 P t y) (hN:ta<N∧tb<N∧tI<N)
  (h0:zY X S (I 0 x0)) (hJ:J 0 x0)
  (hB: ∀k x,J k x→k≤n→∀R,qD R (DW P X w0 N B (zw id tI ta tb n k (fun S'=>∃x',J (k+1) x'∧zY X S' (I (k+1) x')) Q))→DW P X w0 N H (zr R (zw id tI ta tb n k (fun S'=>∃x',J (k+1) x'∧zY X S' (I (k+1) x')) Q)) (I k x)):
  DW P X w0 N (.block id (.loop (.seq H (.seq B (.region r2 #[⟨some ta,.move (.tmp tI),y1,p1,a1,none⟩,⟨some tb,.binOp .add ty (.tmp ta) (.const (.int .i64 1)) ty2,y2,p2,a2,none⟩,⟨some tI,.assign (.tmp tb),y3,p3,a3,none⟩] false))))) Q S:=by
 have okN2:okN N #[⟨some ta,.move (.tmp tI),y1,p1,a1,none⟩,⟨some tb,.binOp .add ty (.tmp ta) (.const (.int .i64 1)) ty2,y2,p2,a2,none⟩,⟨some tI,.assign (.tmp tb),y3,p3,a3,none⟩]=true:=by simp[okN,hN]
 refine qn ?_
 refine zir (ι:={x:Nat×ι // x.1≤n∧J x.1 x.2}) (fun x=>I x.1.1 x.1.2) (fun x=>n - x.1.1) ⟨(0,x0),Nat.zero_le _,hJ⟩ h0 ?_
 rintro⟨⟨k,x⟩,hk,hJk⟩
 simp only at hk hJk ⊢
 refine zc6 ?_
 have tail: ∀(e:Exit) (S':St),e≠ .normal→zw id tI ta tb n k (fun S'=>∃x',J (k+1) x'∧zY X S' (I (k+1) x')) Q e S'→zd id Q e S':=fun e S' hne hq=>by
  cases e with
  |normal=>exact absurd rfl hne
  |exit i=>simp only[zw]at hq;simp only[zd];exact hq
  | _=>exact hq
 refine zb9 (hB k x hJk hk (DW P X w0 N B (zw id tI ta tb n k (fun S'=>∃x',J (k+1) x'∧zY X S' (I (k+1) x')) Q)) ⟨fun _ h=>h⟩) fun e S1 hq=>?_
 cases e with
 | normal=>
  simp only[zr]at hq ⊢
  refine zc6 (zb9 hq fun e S' hq=>?_)
  cases e with
  | normal=>
   obtain⟨hlt,q1,x',hJ',hw⟩:=hq
   simp only[zr]
   refine zju ?_
   refine yk hT okN2 ?_
   obtain⟨s',b',ar'⟩:=S'
   simp only at q1 hw
   show exU P T X w0 N _ [_,_,_] _ ⟨s',b',ar'⟩
   have hwr:(IntKind.i64).wrap ((k:Int)+1)=((k+1:Nat):Int):=by
    have:=zfv (n:=k) (by omega)
    simpa using this
   rw[Yh]
   simp only[ZW,ZN,zbj]
   rw[JJ]
   simp only[stops,jx,qb,ev,q1,true_and,yv,qh]
   rw[Yh]
   simp only[ZW,ZN,zbj]
   rw[JJ]
   simp only[stops,jx,qb,ev,cv,jn,bin,if_true,true_and,yv,qh,hwr]
   rw[Yh]
   simp only[ZW,ZN,zbj]
   rw[JJ]
   simp only[stops,jx,qb,ev,true_and,yv,qh,jn,zeF]
   exact⟨⟨(k+1,x'),hlt,hJ'⟩,by simp only;omega,hw⟩
  |exit i=>
   simp only[zr]
   exact tail _ _ (by simp) hq
  | _=>exact tail _ _ (by simp) hq
 |exit i=>exact tail (.exit i) S1 (by simp) hq
 |goto l=>exact tail (.goto l) S1 (by simp) hq
 |ret=>exact tail .ret S1 (by simp) hq
 |panic c=>exact tail (.panic c) S1 (by simp) hq
 |outgrown=>exact tail .outgrown S1 (by simp) hq
theorem zO {id r2 tI ta tb:Nat} {ty ty2 y1 y2 y3:TypeId} {p1 p2 p3:String} {a1 a2 a3:Array Edge} {H B:Code}
  (h:DW P X w0 N (.block id (.loop (.seq H (.seq B (.region r2 #[⟨some ta,.move (.tmp tI),y1,p1,a1,none⟩,⟨some tb,.binOp .add ty (.tmp ta) (.const (.int .i64 1)) ty2,y2,p2,a2,none⟩,⟨some tI,.assign (.tmp tb),y3,p3,a3,none⟩] false))))) Q S):
  DW P X w0 N (.block id (.loop (.seq H (.seq B (.region r2 #[⟨some ta,.move (.tmp tI),y1,p1,a1,none⟩,⟨some tb,.binOp .add ty (.tmp ta) (.const (.int .i64 1)) ty2,y2,p2,a2,none⟩,⟨some tI,.assign (.tmp tb),y3,p3,a3,none⟩] false))))) Q S:=h
end
theorem za {P:Program} {X:Fr} {w0:World} {N:Nat} {S:St} {o:Oper} {K:St→Prop} {c:Call} {f:FuncId} (hop:o.op= .call c) (hf:c.callee= .value (.func f)) {res:V} (hc:zu P f (c.args.toList.map (ev S)) res) (ha:zc8 (c.args.toList.map (ev S))=true) (hK:K ⟨qh S.slots o.dst res,S.blks,S.arrs⟩):yE P X w0 N o K S:=
 zk8 hop hf hc (zq ha) hK
theorem Jo {P:Program} {X:Fr} {w0:World} {N:Nat} {S:St} {Q:Exit→St→Prop} (t a:Nat) (e:TypeId) (k:Nat) (h:S.slots t= .c (.f (.s (.slice none 0 0)))) (ha:S.arrs a=none)
  (hq:Q .ret ⟨ja S.slots t (.c (.o a)),S.blks,fun c=>if c=a then some (e,k,[])else S.arrs c⟩):DW P X w0 N .ret Q S:=zB (qZ t a e k h ha) (jE hq)
theorem zI {T:Nat→Option Ty} {rs:List ResultVar} {res:V} {bl:BL} {al:RL} {S:St} (am:List (Nat×Nat)) (h:z9 T rs res bl al am S):zAf T rs res bl al .ret S:=⟨am,h⟩
theorem zJ {T:Nat→Option Ty} {rs:List ResultVar} {res:V} {bl:BL} {al:RL} {S:St} (am:List (Nat×Nat)) (h:z9 T rs res bl al am S):zAf T rs res bl al .normal S:=⟨am,h⟩
def qY:Option (TypeId×Nat×List (List F))→F→Prop
 |some (_,k,rows),.l k' rows'=>k=k'∧rows=rows'
 | _,_=>False
section
variable {A:Nat→Option (TypeId×Nat×List (List F))} {xs ys:List C}
theorem ztD:JX A [] []=True:=rfl
theorem zzy {x y:F}:JX A (.f x::xs) (.f y::ys)=(yT x y∧JX A xs ys):=rfl
theorem zzQ {a:Nat} {y:F}:JX A (.o a::xs) (.f y::ys)=(qY (A a) y∧JX A xs ys):=by
  refine propext (and_congr ?_ Iff.rfl)
  cases hq:A a with
  |none=>simp[qY]
  | some q=>
    obtain⟨e,k,rows⟩:=q
    cases y with
    |s v=>simp[qY]
    |fc f ca=>simp[qY]
    | l k' rows' => simp only[qY,Option.some.injEq,Prod.mk.injEq,F.l.injEq];constructor
                    · rintro⟨e',k2,r2,⟨rfl,rfl,rfl⟩,rfl,rfl⟩;exact⟨rfl,rfl⟩
                    · rintro⟨rfl,rfl⟩;exact⟨_,_,_,⟨rfl,rfl,rfl⟩,rfl,rfl⟩
end
attribute [push_cast] ztD zzy zzQ
theorem J6 {T:Nat→Option Ty} {rs:List ResultVar} {res:V} {S:St} (h:qC T rs res S):qF T rs res .ret S:=h
theorem zaI {T:Nat→Option Ty} {rs:List ResultVar} {res:V} {S:St} (h:qC T rs res S):qF T rs res .normal S:=h
attribute [push_cast] zzK zz7 zzB zwc zvN zxx zwU zyP zzi zwV zvm zvZ zuO zrM zsl zxd zwF zuk zAP zBE
theorem zlY {ko:Option Nat} {x:F}:jK ko (.c (.f x))= .c (.f x):=rfl
theorem zjS {ko:Option Nat}:jK ko (.c .un)= .c .un:=rfl
theorem zl2 {ko:Option Nat} {b:Nat}:jK ko (.c (.o b))= .c (Z2 ko (.o b)):=rfl
theorem zmj {ko:Option Nat} {xs:List C}:jK ko (.agg xs)= .agg (xs.map (Z2 ko)):=rfl
theorem zkI {ko:Option Nat} {xs:List (Bool×List C)}:jK ko (.tup xs)= .tup (xs.map (zkM ko)):=rfl
theorem zls {ko:Option Nat} {t o:Nat}:jK ko (.loc t o)= .loc t o:=rfl
theorem zjZ {ko:Option Nat} {xs:List F}:jK ko (.rd xs)= .rd xs:=rfl
theorem zkv {ko:Option Nat}:jK ko .un= .un:=rfl
theorem zlS {ko:Option Nat}:jK ko .no= .no:=rfl
theorem zjY {ko:Option Nat} {f:FuncId} {x y:List W}:jK ko (.clo f x y)= .clo f x y:=rfl
theorem zlh {ko:Option Nat} {b k i o:Nat}:jK ko (.el b k i o)=if ko=some b then .un else .el b k i o:=rfl
theorem zid {ko:Option Nat} {b:Nat}:Z2 ko (.o b)=if ko=some b then .un else .o b:=rfl
theorem zh7 {ko:Option Nat} {x:F}:Z2 ko (.f x)= .f x:=rfl
theorem zhW {ko:Option Nat}:Z2 ko .un= .un:=rfl
theorem zot {ko:Option Nat} {b:Bool} {cs:List C}:zkM ko (b,cs)=(b,cs.map (Z2 ko)):=rfl
theorem zhl {ko:Option Nat} {e:TypeId} {cs:List C}:Yv ko (some (e,cs))=some (e,cs.map (Z2 ko)):=rfl
theorem zih {ko:Option Nat}:Yv ko none=none:=rfl
theorem zhR {x:Option (TypeId×List C)}:Yv none x=x:=by
 have h:Z2 none=fun x=>x:=funext fun x=>by cases x<;>simp[Z2]
 cases x with
 |none=>rfl
 |some y=>obtain⟨e,cs⟩:=y;simp[Yv,h]
theorem zoZ {x:V}:jK none x=x:=by
 have h:Z2 none=fun x=>x:=funext fun x=>by cases x<;>simp[Z2]
 have h2:zkM none=fun x=>x:=funext fun x=>by obtain⟨b,cs⟩:=x;simp[zkM,h]
 cases x<;>simp[jK,h,h2]
theorem zyu {ks:List Nat} {x:F}:kV ks (.c (.f x))= .c (.f x):=rfl
theorem zyi {ks:List Nat}:kV ks (.c .un)= .c .un:=rfl
theorem zx7 {ks:List Nat} {b:Nat}:kV ks (.c (.o b))= .c (kC ks (.o b)):=rfl
theorem zyA {ks:List Nat} {xs:List C}:kV ks (.agg xs)= .agg (xs.map (kC ks)):=rfl
theorem zyB {ks:List Nat} {xs:List (Bool×List C)}:kV ks (.tup xs)= .tup (xs.map (kP ks)):=rfl
theorem zym {ks:List Nat} {t o:Nat}:kV ks (.loc t o)= .loc t o:=rfl
theorem zx2 {ks:List Nat} {xs:List F}:kV ks (.rd xs)= .rd xs:=rfl
theorem zyp {ks:List Nat}:kV ks .un= .un:=rfl
theorem zyy {ks:List Nat}:kV ks .no= .no:=rfl
theorem zyr {ks:List Nat} {f:FuncId} {x y:List W}:kV ks (.clo f x y)= .clo f x y:=rfl
theorem zyx {ks:List Nat} {b k i o:Nat}:kV ks (.el b k i o)=if ks.contains b then .un else .el b k i o:=rfl
theorem zup {ks:List Nat} {b:Nat}:kC ks (.o b)=if ks.contains b then .un else .o b:=rfl
theorem zrP {ks:List Nat} {x:F}:kC ks (.f x)= .f x:=rfl
theorem zrV {ks:List Nat}:kC ks .un= .un:=rfl
theorem zA3 {ks:List Nat} {b:Bool} {cs:List C}:kP ks (b,cs)=(b,cs.map (kC ks)):=rfl
theorem zsd {ks:List Nat} {e:TypeId} {cs:List C}:kB ks (some (e,cs))=some (e,cs.map (kC ks)):=rfl
theorem zur {ks:List Nat}:kB ks none=none:=rfl
theorem zA2 {bm am:List (Nat×Nat)} {x:C}:rnV bm am (.c x)= .c (rnC am x):=rfl
theorem zyw {bm am:List (Nat×Nat)} {xs:List C}:rnV bm am (.agg xs)= .agg (xs.map (rnC am)):=rfl
theorem zyj {bm am:List (Nat×Nat)} {xs:List (Bool×List C)}:rnV bm am (.tup xs)= .tup (xs.map (rnP am)):=rfl
theorem zyf {bm am:List (Nat×Nat)} {t o:Nat}:rnV bm am (.loc t o)= .loc (yH bm t) o:=rfl
theorem zys {bm am:List (Nat×Nat)} {xs:List F}:rnV bm am (.rd xs)= .rd xs:=rfl
theorem zyh {bm am:List (Nat×Nat)}:rnV bm am .un= .un:=rfl
theorem zyg {bm am:List (Nat×Nat)} {f:FuncId} {x y:List W}:rnV bm am (.clo f x y)= .clo f (x.map (rnW bm)) (y.map (rnW bm)):=rfl
theorem ztr {am:List (Nat×Nat)} {b:Nat}:rnC am (.o b)= .o (yH am b):=rfl
theorem zss {am:List (Nat×Nat)} {x:F}:rnC am (.f x)= .f x:=rfl
theorem zuQ {am:List (Nat×Nat)}:rnC am .un= .un:=rfl
theorem zBB {am:List (Nat×Nat)} {b:Bool} {cs:List C}:rnP am (b,cs)=(b,cs.map (rnC am)):=rfl
theorem zse {bm:List (Nat×Nat)} {t o:Nat}:rnW bm (.loc t o)= .loc (yH bm t) o:=rfl
theorem zsR {bm:List (Nat×Nat)} {x:F}:rnW bm (.f x)= .f x:=rfl
theorem zut {bm:List (Nat×Nat)} {x:List F}:rnW bm (.agg x)= .agg x:=rfl
theorem zu4 {bm:List (Nat×Nat)} {x:List F}:rnW bm (.rd x)= .rd x:=rfl
theorem zA8 {ks:List Nat} {f:Nat→Option (TypeId×Nat×List (List F))} {c:Nat}:kA ks f c=if ks.contains c then none else f c:=rfl
attribute [push_cast] zlY zjS zl2 zmj zkI zls zjZ zkv zlS zjY zlh zid zh7 zhW zot zhl zih zhR zoZ zyu zyi zx7 zyA zyB zym zx2 zyp zyy zyr zyx zup zrP zrV zA3 zsd zur zA2 zyw zyj zyf zys zyh zyg ztr zss zuQ zBB zse zsR zut zu4 zA8
section
variable {P:Program} {T:Nat→Option Ty} {p:Prop} {rn:List Nat} {dst:Option Nat} {op:Op} {bx:List Nat} {K:St→Prop} {X:Fr} {w0:World} {N:Nat} {s:Nat→V} {b:Nat→Option (TypeId×List C)} {a:Nat→Option (TypeId×Nat×List (List F))}
def ztn (x:Option Out) (dst:Option Nat) (K:St→Prop) (S:St):Prop:=match x with
 |some (p,.put v,_)=>p∧QM (fun v=>K ⟨qh S.slots dst v,S.blks,S.arrs⟩) v
 |some (p,.box e cs,_)=>match dst with
  |some d=>p∧S.blks d=none∧K ⟨ja S.slots d (.loc d 0),ja S.blks d (some (e,cs)),S.arrs⟩
  |none=>False
 |some (p,.store b e cs,_)=>dst=none∧p∧K ⟨S.slots,ja S.blks b (some (e,cs)),S.arrs⟩
 |some (p,.mk _ k rows,_)=>p∧K ⟨qh S.slots dst (.c (.f (.l k rows))),S.blks,S.arrs⟩
 |some (p,.app ko e k rows,_)=>match dst with
  |some d=>p∧(S.arrs d=none∨ko=some d)∧K ⟨ja (fun t=>jK ko (S.slots t)) d (.c (.o d)),fun t=>Yv ko (S.blks t),fun c=>if c=d then some (e,k,rows)else if ko=some c then none else S.arrs c⟩
  |none=>False
 |some (p,.elt c e k rows,_)=>dst=none∧p∧K ⟨S.slots,S.blks,fun x=>if x=c then some (e,k,rows)else S.arrs x⟩
 |none=>False
theorem zz6 {x x':Option Out} {dst:Option Nat} {K:St→Prop} {S:St} (h:x=x'):ztn x dst K S=ztn x' dst K S:=h▸rfl
attribute [congr] zz6
def zvg (x:Option Out) (dst:Option Nat) (K:St→Prop) (S:St):Prop:=match x with
 |some (p,.put v,_)=>p∧QM (fun v=>K ⟨qh S.slots dst v,S.blks,S.arrs⟩) v
 |some (p,.box e cs,_)=>match dst with
  |some d=>p∧S.blks d=none∧K ⟨ja S.slots d (.loc d 0),ja S.blks d (some (e,cs)),S.arrs⟩
  |none=>False
 |some (p,.store b e cs,_)=>dst=none∧p∧K ⟨S.slots,ja S.blks b (some (e,cs)),S.arrs⟩
 |some (p,.mk _ k rows,_)=>p∧K ⟨qh S.slots dst (.c (.f (.l k rows))),S.blks,S.arrs⟩
 |some (p,.app ko e k rows,_)=>match dst with
  |some d=>p∧(S.arrs d=none∨ko=some d)∧K ⟨ja (fun t=>jK ko (S.slots t)) d (.c (.o d)),fun t=>Yv ko (S.blks t),fun c=>if c=d then some (e,k,rows)else if ko=some c then none else S.arrs c⟩
  |none=>False
 |some (_,.elt _ _ _ _,_)=>False
 |none=>False
theorem zzh {x x':Option Out} {dst:Option Nat} {K:St→Prop} {S:St} (h:x=x'):zvg x dst K S=zvg x' dst K S:=h▸rfl
attribute [congr] zzh
theorem zCf {v:V}:ztn (some (p,.put v,rn)) dst K ⟨s,b,a⟩=(p∧QM (fun v=>K ⟨qh s dst v,b,a⟩) v):=rfl
theorem zB9 {e:TypeId} {cs:List C} {d:Nat}:ztn (some (p,.box e cs,rn)) (some d) K ⟨s,b,a⟩=(p∧b d=none∧K ⟨ja s d (.loc d 0),ja b d (some (e,cs)),a⟩):=rfl
theorem zz9 {c:Nat} {e:TypeId} {cs:List C}:ztn (some (p,.store c e cs,rn)) none K ⟨s,b,a⟩=(p∧K ⟨s,ja b c (some (e,cs)),a⟩):=propext ⟨fun h=>h.2,fun h=>⟨rfl,h⟩⟩
theorem zCJ {e:TypeId} {k:Nat} {rows:List (List F)}:ztn (some (p,.mk e k rows,rn)) dst K ⟨s,b,a⟩=(p∧K ⟨qh s dst (.c (.f (.l k rows))),b,a⟩):=rfl
theorem zB7 {ko:Option Nat} {e:TypeId} {k:Nat} {rows:List (List F)} {d:Nat}:ztn (some (p,.app ko e k rows,rn)) (some d) K ⟨s,b,a⟩=(p∧(a d=none∨ko=some d)∧K ⟨ja (fun t=>jK ko (s t)) d (.c (.o d)),fun t=>Yv ko (b t),fun c=>if c=d then some (e,k,rows)else if ko=some c then none else a c⟩):=rfl
theorem zBU {c:Nat} {e:TypeId} {k:Nat} {rows:List (List F)}:ztn (some (p,.elt c e k rows,rn)) none K ⟨s,b,a⟩=(p∧K ⟨s,b,fun x=>if x=c then some (e,k,rows)else a x⟩):=propext ⟨fun h=>h.2,fun h=>⟨rfl,h⟩⟩
theorem zBV {v:V}:zvg (some (p,.put v,rn)) dst K ⟨s,b,a⟩=(p∧QM (fun v=>K ⟨qh s dst v,b,a⟩) v):=rfl
theorem zB3 {e:TypeId} {cs:List C} {d:Nat}:zvg (some (p,.box e cs,rn)) (some d) K ⟨s,b,a⟩=(p∧b d=none∧K ⟨ja s d (.loc d 0),ja b d (some (e,cs)),a⟩):=rfl
theorem zzg {c:Nat} {e:TypeId} {cs:List C}:zvg (some (p,.store c e cs,rn)) none K ⟨s,b,a⟩=(p∧K ⟨s,ja b c (some (e,cs)),a⟩):=propext ⟨fun h=>h.2,fun h=>⟨rfl,h⟩⟩
theorem zCG {e:TypeId} {k:Nat} {rows:List (List F)}:zvg (some (p,.mk e k rows,rn)) dst K ⟨s,b,a⟩=(p∧K ⟨qh s dst (.c (.f (.l k rows))),b,a⟩):=rfl
theorem zB1 {ko:Option Nat} {e:TypeId} {k:Nat} {rows:List (List F)} {d:Nat}:zvg (some (p,.app ko e k rows,rn)) (some d) K ⟨s,b,a⟩=(p∧(a d=none∨ko=some d)∧K ⟨ja (fun t=>jK ko (s t)) d (.c (.o d)),fun t=>Yv ko (b t),fun c=>if c=d then some (e,k,rows)else if ko=some c then none else a c⟩):=rfl
theorem zCX:jx P T dst op K ⟨s,b,a⟩=ztn (qb P T ⟨s,b,a⟩ op) dst K ⟨s,b,a⟩:=rfl
theorem zC6:zBq P T dst op K ⟨s,b,a⟩=zvg (qb P T ⟨s,b,a⟩ op) dst K ⟨s,b,a⟩:=rfl
theorem zzU {o:Oper}:zbd P T X w0 N o K ⟨s,b,a⟩=gd2 (some (stops o.op)) (yE P X w0 N o K) (jx P T o.dst o.op K) ⟨s,b,a⟩:=by
 rw[JJ]
 cases stops o.op<;>rfl
def zvi (x:Option (FuncId×List Operand)) (P:Program) (T:Nat→Option Ty) (bx:List Nat) (dst:Option Nat) (op:Op) (K:St→Prop) (S:St):Prop:=match x with
 |some (f,args)=>∃xs res,zu P f xs res∧zc9 (args.map (ev S)) xs∧zky K ⟨qh S.slots dst res,S.blks,S.arrs⟩
 |none=>chk bx (qy P T S op)∧zBq P T dst op K S
theorem zvh {x x':Option (FuncId×List Operand)} {S:St} (h:x=x'):zvi x P T bx dst op K S=zvi x' P T bx dst op K S:=h▸rfl
attribute [congr] zvh
theorem zC4:zmQ P T bx dst op K ⟨s,b,a⟩=zvi (jM ⟨s,b,a⟩ op) P T bx dst op K ⟨s,b,a⟩:=rfl
theorem zCO {f:FuncId} {args:List Operand}:zvi (some (f,args)) P T bx dst op K ⟨s,b,a⟩= ∃xs res,zu P f xs res∧zc9 (args.map (ev ⟨s,b,a⟩)) xs∧zky K ⟨qh s dst res,b,a⟩:=rfl
theorem zCM:zvi none P T bx dst op K ⟨s,b,a⟩=(chk bx (qy P T ⟨s,b,a⟩ op)∧zBq P T dst op K ⟨s,b,a⟩):=rfl
end
attribute [push_cast] zhO Jy
attribute [push_cast] zCf zB9 zz9 zCJ zB7 zBV zB3 zzg zCG zB1 zBU zCX zC6 zzU zC4 zCO zCM
attribute [push_cast] zeF Yh stops zwp zuj zbj zBG zuh ZN yy kdC kd ZW jM qb ev cv qh jn zuB St.of zv5 zth zwq zvA ztK zwi zrJ zq6 zm1 zqV St.ofA zam zac zxw ztC zvM Jy znf ziR bin Q6 zlc frz wsD wD chk bq1 bq0 zyN zzP zzD zxq ztY znT znR yH W.toV
attribute [push_cast] Option.isSome_some Option.bind_some Option.map_some Option.getD_some List.getD_cons_zero List.getD_cons_succ List.getElem?_toArray List.getElem?_cons_zero List.getElem?_cons_succ List.map_cons List.map_nil List.drop_zero List.drop_succ_cons List.take_succ_cons List.take_zero List.length_cons List.length_nil List.length_map List.append_eq List.cons_append List.nil_append List.lookup_cons List.lookup_nil List.contains_cons List.contains_nil if_true if_false true_and and_true true_or or_true ne_eq not_true_eq_false not_false_eq_true Bool.not_true Bool.not_false Bool.false_eq_true Bool.or_false Bool.or_true Bool.false_or Bool.true_or
theorem znn {K:V→Prop} {v v':V} (h:v=v'):QM K v=QM K v':=h▸rfl
attribute [congr] znn
theorem zm {ops:Array Oper} {R:St→Prop} {acc:List (Option Nat)} {S:St} (h1:zAw ops acc=true) (h2:R S):zAz ops R acc S:=⟨h1,h2⟩
attribute [push_cast] zww zuv zmT
theorem zF {q:Prop} [Decidable q] {p:Bool→Prop} (h1:q→p true) (h2: ¬q→p false): ∀b,decide q=b→p b:=fun b e=>by
 cases b
 ·exact h2 (of_decide_eq_false e)
 ·exact h1 (of_decide_eq_true e)
theorem zn {T:Nat→Option Ty} {rs:List ResultVar} {res:V} {e:Exit} {S:St} (h:qF T rs res e S):qF T rs res e S:=h
class J4 (G:Prop) (H:outParam Prop):Prop where
 p:H→G
theorem zG {G H:Prop} [i:J4 G H] (h:H):G:=i.p h
section
variable {P:Program} {X:Fr} {w0:World} {N:Nat} {S:St} {Q:Exit→St→Prop}
instance {i:Nat} {c:Code}:J4 (DW P X w0 N (.block i c) Q S) (DW P X w0 N c (zd i Q) S):=⟨qn⟩
instance:J4 (DW P X w0 N .skip Q S) (Q .normal S):=⟨Qg⟩
instance {i:Nat}:J4 (DW P X w0 N (.exit i) Q S) (Q (.exit i) S):=⟨Ql⟩
instance:J4 (DW P X w0 N .ret Q S) (Q .ret S):=⟨jE⟩
end
end Go.Dl
namespace Go.Proofs.YtbcbnfiedgnfpaaGreat
attribute [push_cast] tt1 tt2 tt3 tt4 tt5 tt9 znB ztX zCg zuK zCc zB6 zCj zCa zCt zCl zsf zB2 zCs zCC zCA zB4 zCd zCb zCz zB8 zAQ zAy zBk zA6 zBc zAH zBJ zAU zsX zBi zAA zBu zAV zBK zBM zBm zAK zAJ zBN zAt zBO zBe zAE zBF zBd zAG zBx zBP zA0 zBj zA1 zAI zBo zBH zA7 zBn zBS zA5 zAu zAW zAY zBw zAS zBr zAx zAZ zBQ zA9 zBD zAD zBy zBv zAB zAR
open Go.Dl in
theorem zx {X:Fr} {w0:World} {N:Nat} {S:St} {Q:Exit→St→Prop} {id:Nat} {ops:Array Oper} (hN:okN N ops=true) (h: ∀R:St→Prop,qD R (Q .normal)→exU Tryz.prog (yW TT) X w0 N ops ops.toList R S):DW Tryz.prog X w0 N (.region id ops false) Q S:=zL fun R hR=>yk hT hN (h R hR)
end Go.Proofs.YtbcbnfiedgnfpaaGreat
end
