import Derived.Test.YtbcbnfiedgnfpaaGreatZ35
import Derived.Test.YtbcbnfiedgnfpaaGreatZ16
set_option linter.unusedSimpArgs false
set_option linter.unusedVariables false
set_option maxRecDepth 100000
set_option maxHeartbeats 2000000
namespace Go.Proofs.YtbcbnfiedgnfpaaGreat
open Go.Dl
theorem zzm (k x s:Int) (hk:1≤k∧k≤4):zu Tryz.prog 148 [gI k,gI x,gI s] (rII (qV k x s)):=by
 have key: ∀(r:Int×Int),qV k x s=(if r.2=0 then r.1 else 0,r.2)→(∀w,Calls Tryz.prog 148 #[.int .i64 k,.int .i64 x,.int .i64 s] w (zqt r w))→zu Tryz.prog 148 [gI k,gI x,gI s] (rII (qV k x s)):=fun r hr h=>by
  refine⟨⟨_,Tryz.func148,rfl,by decide⟩,fun w us I hI hl hv=>?_⟩
  have hus:us= #[.int .i64 k,.int .i64 x,.int .i64 s]:=by
   obtain⟨l⟩:=us
   match l,hl with
   |[a,b,c],_=>
    have h0:=hv 0 _ a rfl rfl
    have h1:=hv 1 _ b rfl rfl
    have h2:=hv 2 _ c rfl rfl
    cases h0 with|c h0=>cases h0 with|f h0=>cases h0 with|s _=>cases h1 with|c h1=>cases h1 with|f h1=>cases h1 with|s _=>cases h2 with|c h2=>cases h2 with|f h2=>cases h2 with|s _=>rfl
  subst hus
  refine(h w).mono ?_
  rintro v w' ⟨rfl,hb⟩
  refine⟨_,I,rfl,?_,hb,fun _ h=>h,fun _ h=>.inl h⟩
  rw[hr]
  refine .tup rfl fun j p u hp hu=>?_
  match j with
  |0=>cases hp;cases hu;exact⟨_,rfl,.f (.s rfl)⟩
  |1=>cases hp;cases hu;exact⟨_,rfl,.f (.s rfl)⟩
  |j+2=>cases hp
 have e1: ∀a b:Int,qX (a,0) b=Ym a b (wr (a*b)):=fun a b=>rfl
 have e2: ∀a b:Int,y0 a b=(if(Ym a b (wr (a*b))).2=0 then(Ym a b (wr (a*b))).1 else 0,(Ym a b (wr (a*b))).2):=fun a b=>by
  unfold y0 Ym told
  cases h1:flowB a<;>cases h2:flowB b<;>cases h3:flowB (wr (a*b))<;>simp
 have e3: ∀a b:Int,(y0 a b).2=(Ym a b (wr (a*b))).2:=fun a b=>by rw[e2]
 rcases(by omega:k=1∨k=2∨k=3∨k=4)with rfl|rfl|rfl|rfl
 ·refine key (qX (x,0) s) ?_ (zxB x s)
  rw[e1,←e2];rfl
 ·by_cases hx:x=0∨x=1
  ·refine key (qX (x,0) s) ?_ (zuT x s hx)
   rw[e1,←e2];unfold qV;rw[if_neg (by omega),if_pos rfl,if_neg (by omega)]
  ·refine key (x,49) ?_ (ztp x s (fun h=>hx (.inl h)) fun h=>hx (.inr h))
   unfold qV;rw[if_neg (by omega),if_pos rfl,if_pos (by omega)];simp
 ·refine key (qX (qX (x,0) x) s) ?_ (zwd x s)
  unfold qV
  rw[if_neg (by omega),if_neg (by omega),if_pos rfl,e1]
  by_cases h:(Ym x x (wr (x*x))).2=0
  ·rw[if_pos (by rw[e3];exact h)]
   have:Ym x x (wr (x*x))=((Ym x x (wr (x*x))).1,0):=Prod.ext rfl h
   have e4:(y0 x x).1=(Ym x x (wr (x*x))).1:=by rw[e2];simp[h]
   rw[this,e1,e4,e2]
  ·rw[if_neg (by rw[e3];exact h)]
   have:qX (Ym x x (wr (x*x))) s=Ym x x (wr (x*x)):=by unfold qX;rw[if_neg h]
   rw[this,e3,if_neg h]
 ·refine key (qX (x,0) 1) ?_ (zw2 x s)
  unfold qV
  rw[if_neg (by omega),if_neg (by omega),if_neg (by omega),e1,←e2]
theorem zyL:zrZ:=fun k x s hk=>zzm k x s hk
end Go.Proofs.YtbcbnfiedgnfpaaGreat
