import Derived.Test.YtbcbnfiedgnfpaaGreatZ09
import Derived.Defers
import Derived.LoopN
import Derived.RegionTactic
import Derived.ChangeAlike
set_option linter.unusedSimpArgs false
set_option linter.unusedVariables false
set_option maxRecDepth 100000
set_option maxHeartbeats 2000000
namespace Go.Proofs.YtbcbnfiedgnfpaaGreat
open Go.Dl Go.Ed Go.RowKit
theorem Y6 (w:World):Calls Tryz.prog 218 #[] w fun e w'=>e= .returned (.slice (some ⟨w.heap.size,0,none⟩) 4 4)∧w'=w.alloc (.cells #[.int .i64 1,.func (.func 285) #[] #[],.int .i64 2,.func (.func 287) #[] #[],.int .i64 3,.func (.func 288) #[] #[],.int .i64 4,.func (.func 289) #[] #[]] 247):=by
 go_enter Tryz.func218,Tryz.ntmps218
 go_wp2_with fail
 go_ret
 exact⟨rfl,rfl⟩
theorem zR:Ed.Agg Tryz.prog 247 2:=⟨_,Tryz.underlying247,rfl,by kernel_rfl⟩
theorem zb5 (p6 p7 p8 p13:Nat) (x e:Int) (u:FrameMode) (w:World) (h8:Blk w p8 240 #[.pointer (some ⟨p13,0,none⟩)]) (h13:Blk w p13 242 #[.int .i64 x,.int .i64 e])
  (h6:Blk w p6 2 #[.int .i64 0]) (h7:Blk w p7 49 #[.int .i64 0]) (n67:p6≠p7):
  CallsD Tryz.prog 217 #[.pointer (some ⟨p8,0,none⟩),.pointer (some ⟨p6,0,none⟩),.pointer (some ⟨p7,0,none⟩)] u w fun e' u' w'=>u'=u∧e'= .returned (.tuple #[])∧
   Blk w' p6 2 #[.int .i64 (if e=0 then x else 0)]∧Blk w' p7 49 #[.int .i64 e]∧yi (fun i=>i=p6∨i=p7) w w':=by
 have c8:w.cell? ⟨p8,0,none⟩=some (.pointer (some ⟨p13,0,none⟩)):=h8.cell 0
 have cx:w.cell? ⟨p13,0,none⟩=some (.int .i64 x):=h13.cell 0
 have ce:w.cell? ⟨p13,1,none⟩=some (.int .i64 e):=h13.cell 1
 have c6:w.cell? ⟨p6,0,none⟩=some (.int .i64 0):=h6.cell 0
 have c7:w.cell? ⟨p7,0,none⟩=some (.int .i64 0):=h7.cell 0
 have f6:w.frozen? ⟨p6,0,none⟩=false:=h6.frozen 0
 have f7:w.frozen? ⟨p7,0,none⟩=false:=h7.frozen 0
 by_cases h0:e=0
 ·subst h0
  go_enter_d Tryz.func217,Tryz.ntmps217
  go_wp2_with fail
  go_region
  go_wp2
  go_end0
  refine⟨rfl,?_,?_,?_⟩
  ·exact((h6.set_ 0 (.int .i64 x)).far (p:=⟨p7,0,none⟩) (by simpa using n67) _)
  ·exact((h7.far (p:=⟨p6,0,none⟩) (by simpa using Ne.symm n67) (.int .i64 x)).set_ 0 (.int .i64 0))
  ·exact(((yi.refl (fun i=>i=p6∨i=p7) w).setCell (p:=⟨p6,0,none⟩) (fun _=>.inl rfl) _).setCell (p:=⟨p7,0,none⟩) (fun _=>.inr rfl) _).drew
 ·go_enter_d Tryz.func217,Tryz.ntmps217
  go_wp2_with fail
  go_region
  go_wp2
  go_end0
  refine⟨rfl,?_,?_,?_⟩
  ·exact(((h6.set_ 0 (.int .i64 x)).far (p:=⟨p7,0,none⟩) (by simpa using n67) (.int .i64 e)).set_ 0 (.int .i64 0))
  ·exact(((h7.far (p:=⟨p6,0,none⟩) (by simpa using Ne.symm n67) (.int .i64 x)).set_ 0 (.int .i64 e)).far (p:=⟨p6,0,none⟩) (by simpa using Ne.symm n67) (.int .i64 0))
  ·exact((((yi.refl (fun i=>i=p6∨i=p7) w).setCell (p:=⟨p6,0,none⟩) (fun _=>.inl rfl) _).setCell (p:=⟨p7,0,none⟩) (fun _=>.inr rfl) _).setCell (p:=⟨p6,0,none⟩) (fun _=>.inl rfl) _).drew
structure TW (w0 w:World) (x e:Int):Prop where
 lo:Below w0.heap.size w0 w
 b6:Blk w w0.heap.size 2 #[.int .i64 0]
 b7:Blk w (w0.heap.size+1) 49 #[.int .i64 0]
 b13:Blk w (w0.heap.size+1+1) 242 #[.int .i64 x,.int .i64 e]
 b8:Blk w (w0.heap.size+1+1+1) 240 #[.pointer (some ⟨w0.heap.size+1+1,0,none⟩)]
 bT:Blk w (w0.heap.size+1+1+1+1) 247 #[.int .i64 1,.func (.func 285) #[] #[],.int .i64 2,.func (.func 287) #[] #[],.int .i64 3,.func (.func 288) #[] #[],.int .i64 4,.func (.func 289) #[] #[]]
theorem TW.start (w:World) (x:Int):TW w (((((w.alloc (.cells #[.int .i64 0] 2)).alloc (.cells #[.int .i64 0] 49)).alloc (.cells #[.int .i64 x,.int .i64 0] 242)).alloc (.cells #[.pointer (some ⟨w.heap.size+1+1,0,none⟩)] 240)).alloc (.cells #[.int .i64 1,.func (.func 285) #[] #[],.int .i64 2,.func (.func 287) #[] #[],.int .i64 3,.func (.func 288) #[] #[],.int .i64 4,.func (.func 289) #[] #[]] 247)) x 0:=
  ⟨(((((Below.refl _ w).alloc (Nat.le_refl _) _).alloc (by simp) _).alloc (by simp;omega) _).alloc (by simp;omega) _).alloc (by simp;omega) _,
   ((((Blk.new w _ _).alloc _).alloc _).alloc _).alloc _,(((Blk.new' (by simp)).alloc _).alloc _).alloc _,((Blk.new' (by simp)).alloc _).alloc _,(Blk.new' (by simp)).alloc _,Blk.new' (by simp)⟩
theorem TW.room {w0 w:World} {x e:Int} (h:TW w0 w x e):w0.heap.size+5≤w.heap.size:=by have:=h.bT.lt;omega
theorem TW.next {w0 w w':World} {x e:Int} (h:TW w0 w x e) {o:Obj} {g:Nat} (hg:g=w.heap.size) (hc:yi (· =g) (w.alloc o) w'):TW w0 w' x e:=by
  have hr:=h.room
  subst hg
  have key: ∀ {g:Nat} {t:TypeId} {cs:Array Value},Blk w g t cs→Blk w' g t cs:=fun {g t cs} hb=>(hb.alloc o).chg hc (by have:=hb.lt;omega)
  exact⟨(h.lo.alloc (by omega) o).trans (hc.below (fun i hi=>by omega) (by simp;omega)),key h.b6,key h.b7,key h.b13,key h.b8,key h.bT⟩
theorem ztg {w:World} {E:qN} {a b:Int} {us:List Value} (h:Reps w E [.f (.s (.int .i64 a)),.f (.s (.int .i64 b))] us):us=[.int .i64 a,.int .i64 b]:=by
 obtain⟨hl,h⟩:=h
 match us,hl with
 |[u,v],_=>
  have h0:=h 0 _ u rfl rfl
  have h1:=h 1 _ v rfl rfl
  cases h0 with|f h0=>cases h0 with|s _=>cases h1 with|f h1=>cases h1 with|s _=>rfl
theorem zcu {f:FuncId} {x e a1 a2:Int} {r:Int×Int} (h:zA Tryz.prog f [.loc 0 0,.c (.f (.s (.int .i64 a1))),.c (.f (.s (.int .i64 a2)))] [(0,242,[.f (.s (.int .i64 x)),.f (.s (.int .i64 e))])] [] (.tup []) [(0,242,[.f (.s (.int .i64 r.1)),.f (.s (.int .i64 r.2))])] []) {w0 w:World} (H:TW w0 w x e):
    Calls Tryz.prog f #[.pointer (some ⟨w0.heap.size+1+1,0,none⟩),.int .i64 a1,.int .i64 a2] w fun v w'=>v= .returned (.tuple #[])∧TW w0 w' r.1 r.2:=by
  have hb13:=H.b13.lt
  refine(h.2 w #[.pointer (some ⟨w0.heap.size+1+1,0,none⟩),.int .i64 a1,.int .i64 a2] ⟨fun t=>if t=0 then some (w0.heap.size+1+1)else none,fun _=>none,fun _=>False⟩ ?_ rfl ?_).mono ?_
  · refine⟨fun t ty cs ht=>?_,fun t t' b h1 h2=>?_,fun t b h1=>?_,fun _ _ _ _ h=>(by cases h),fun _ _ _ h=>(by cases h),fun _ _ _ _ _ h=>(by cases h),fun t ht=>?_,fun _ _=>rfl,fun _ h=>h.elim⟩
    · by_cases e0:t=0
      · subst e0
        injection ht with ht
        injection ht with h1 h2
        subst h1;subst h2
        refine⟨w0.heap.size+1+1,_,rfl,H.b13,rfl,fun j x u hx hu=>?_⟩
        match j with
        |0=>cases hx;cases hu;exact .f (.s rfl)
        |1=>cases hx;cases hu;exact .f (.s rfl)
        |j+2=>cases hx
      · have:YX t [(0,242,[C.f (.s (.int .i64 x)),.f (.s (.int .i64 e))])]=none:=by simp[YX,e0]
        rw[this]at ht;cases ht
    · by_cases e1:t=0<;>by_cases e2:t'=0<;>simp_all
    · by_cases e1:t=0
      · simp[e1]at h1;subst h1;exact⟨hb13,fun h=>h⟩
      · simp[e1]at h1
    · by_cases e1:t=0
      · subst e1;cases ht
      · simp[e1]
  · intro j v u hv hu
    match j with
    |0=>cases hv;cases hu;exact .loc rfl
    |1=>cases hv;cases hu;exact .c (.f (.s rfl))
    |2=>cases hv;cases hu;exact .c (.f (.s rfl))
    |j+3=>cases hv
  · rintro v w' ⟨u,E',rfl,hm,hr,hc,hB,hI,hI2,hf⟩
    have hu:u= .tuple #[]:=by
      cases hr with
      |tup hl h=>rename_i us;have:us= #[]:=Array.eq_empty_of_size_eq_zero hl.symm;subst this;rfl
    refine⟨by rw[hu],?_⟩
    have hfoot: ∀b,foot ⟨fun t=>if t=0 then some (w0.heap.size+1+1)else none,fun _=>none,fun _=>False⟩ b→b=w0.heap.size+1+1:=fun b hb=>by
      rcases hb with⟨t,ht⟩|⟨a,v,hv,_⟩
      · by_cases e1:t=0
        · simp[e1]at ht;exact ht.symm
        · simp[e1]at ht
      · cases hv
    have hc':yi (· =w0.heap.size+1+1) w w':=hc.mono hfoot
    obtain⟨b,vs,h1,h2,h3⟩:=hm.blk 0 _ _ rfl
    have hb:b=w0.heap.size+1+1:=by
      have:=hB 0 _ rfl
      rw[this]at h1;injection h1 with h1;exact h1.symm
    have hvs:vs= #[.int .i64 r.1,.int .i64 r.2]:=by
      have:=ztg h3
      exact Array.ext' this
    subst hb hvs
    have key: ∀ {g:Nat} {t:TypeId} {cs:Array Value},Blk w g t cs→g≠w0.heap.size+1+1→Blk w' g t cs:=fun {g t cs} hb hn=>hb.chg hc' hn
    exact⟨H.lo.trans (hc'.below (fun i hi=>by omega) (by omega)),key H.b6 (by omega),key H.b7 (by omega),h2,key H.b8 (by omega),key H.bT (by omega)⟩
def zqt (r:Int×Int) (w:World):Ending→World→Prop:=fun v w'=>v= .returned (.tuple #[.int .i64 (if r.2=0 then r.1 else 0),.int .i64 r.2])∧Below w.heap.size w w'
theorem zxB (x s:Int) (w:World):Calls Tryz.prog 148 #[.int .i64 1,.int .i64 x,.int .i64 s] w (zqt (qX (x,0) s) w):=by
 have hmf: ∀(fn:Fn) (first cap:Array Value) (w:World),(Instr.makeFunc fn first cap).run Tryz.prog w= .ok (.func fn first cap) w:=fun _ _ _ _=>rfl
 go_enter_defers Tryz.func148,Tryz.ntmps148
 go_wp2_with (go_at_call 218;refine(Y6 _).mono ?_;rintro e w' ⟨rfl,rfl⟩)
 refine wp_loop_rounds 5 ?_
 have H0:=TW.start w x
 generalize (((((w.alloc (.cells #[.int .i64 0] 2)).alloc (.cells #[.int .i64 0] 49)).alloc (.cells #[.int .i64 x,.int .i64 0] 242)).alloc (.cells #[.pointer (some ⟨w.heap.size+1+1,0,none⟩)] 240)).alloc (.cells #[.int .i64 1,.func (.func 285) #[] #[],.int .i64 2,.func (.func 287) #[] #[],.int .i64 3,.func (.func 288) #[] #[],.int .i64 4,.func (.func 289) #[] #[]] 247))=W0 at H0 ⊢
 rw[rounds_succ]
 go_wp2_with (first|((with_reducible refine qx [.int .i64 1,.func (.func 285) #[] #[]] zR (H0).bT rfl (by decide) rfl ?_))|((with_reducible refine qk (off:=0) (vs:=#[.int .i64 1,.func (.func 285) #[] #[]]) #[.int .i64 1,.func (.func 285) #[] #[]] zR (Blk.new' rfl) ?b1 ?b2 ?b3 ?b4 ?b5 ?b6 ?_);(case b1=>rfl);(case b2=>rfl);(case b3=>rfl);(case b4=>simp);(case b5=>simp[Value.oneCell']);(case b6=>rfl);intro w1 hB4 hC4;have H1:=(H0).next rfl hC4;have c0:(w1).cell? ⟨_,0,none⟩=some (.int .i64 1):=hB4.cell 0;have c1:(w1).cell? ⟨_,1,none⟩=some (.func (.func 285) #[] #[]):=hB4.cell 1;have c8:(w1).cell? ⟨w.heap.size+1+1+1,0,none⟩=some (.pointer (some ⟨w.heap.size+1+1,0,none⟩)):=(H1).b8.cell 0;clear hB4 hC4)|(go_at_call 285;refine(zcu (zwN (x,0) x s) H1).mono ?_;rintro e w2 ⟨rfl,H2⟩))
 rw[rounds_succ]
 go_wp2_with (first|((with_reducible refine qx [.int .i64 2,.func (.func 287) #[] #[]] zR (H2).bT rfl (by decide) rfl ?_))|((with_reducible refine qk (off:=0) (vs:=#[.int .i64 2,.func (.func 287) #[] #[]]) #[.int .i64 2,.func (.func 287) #[] #[]] zR (Blk.new' rfl) ?b1 ?b2 ?b3 ?b4 ?b5 ?b6 ?_);(case b1=>rfl);(case b2=>rfl);(case b3=>rfl);(case b4=>simp);(case b5=>simp[Value.oneCell']);(case b6=>rfl);intro w3 hB4 hC4;have H3:=(H2).next rfl hC4;have c0:(w3).cell? ⟨_,0,none⟩=some (.int .i64 2):=hB4.cell 0;have c1:(w3).cell? ⟨_,1,none⟩=some (.func (.func 287) #[] #[]):=hB4.cell 1;clear hB4 hC4))
 rw[rounds_succ]
 go_wp2_with (first|((with_reducible refine qx [.int .i64 3,.func (.func 288) #[] #[]] zR (H3).bT rfl (by decide) rfl ?_))|((with_reducible refine qk (off:=0) (vs:=#[.int .i64 3,.func (.func 288) #[] #[]]) #[.int .i64 3,.func (.func 288) #[] #[]] zR (Blk.new' rfl) ?b1 ?b2 ?b3 ?b4 ?b5 ?b6 ?_);(case b1=>rfl);(case b2=>rfl);(case b3=>rfl);(case b4=>simp);(case b5=>simp[Value.oneCell']);(case b6=>rfl);intro w4 hB4 hC4;have H4:=(H3).next rfl hC4;have c0:(w4).cell? ⟨_,0,none⟩=some (.int .i64 3):=hB4.cell 0;have c1:(w4).cell? ⟨_,1,none⟩=some (.func (.func 288) #[] #[]):=hB4.cell 1;clear hB4 hC4))
 rw[rounds_succ]
 go_wp2_with (first|((with_reducible refine qx [.int .i64 4,.func (.func 289) #[] #[]] zR (H4).bT rfl (by decide) rfl ?_))|((with_reducible refine qk (off:=0) (vs:=#[.int .i64 4,.func (.func 289) #[] #[]]) #[.int .i64 4,.func (.func 289) #[] #[]] zR (Blk.new' rfl) ?b1 ?b2 ?b3 ?b4 ?b5 ?b6 ?_);(case b1=>rfl);(case b2=>rfl);(case b3=>rfl);(case b4=>simp);(case b5=>simp[Value.oneCell']);(case b6=>rfl);intro w5 hB4 hC4;have H5:=(H4).next rfl hC4;have c0:(w5).cell? ⟨_,0,none⟩=some (.int .i64 4):=hB4.cell 0;have c1:(w5).cell? ⟨_,1,none⟩=some (.func (.func 289) #[] #[]):=hB4.cell 1;clear hB4 hC4))
 rw[rounds_succ]
 go_wp2_with fail
 refine leaves_cons (f:=217) (args:=#[.pointer (some ⟨w.heap.size+1+1+1,0,none⟩),.pointer (some ⟨w.heap.size,0,none⟩),.pointer (some ⟨w.heap.size+1,0,none⟩)]) (by simp) (by simp[go_sem]) ?_
 refine(zb5 _ _ _ _ _ _ .returning _ (H5).b8 (H5).b13 (H5).b6 (H5).b7 (by omega)).mono ?_
 rintro e u' w'' ⟨rfl,rfl,k6,k7,hc⟩
 have c6:w''.cell? ⟨w.heap.size,0,none⟩=some (.int .i64 (if((qX (x,0) s)).2=0 then((qX (x,0) s)).1 else 0)):=k6.cell 0
 have c7:w''.cell? ⟨w.heap.size+1,0,none⟩=some (.int .i64 ((qX (x,0) s)).2):=k7.cell 0
 refine⟨.tuple #[.int .i64 (if((qX (x,0) s)).2=0 then((qX (x,0) s)).1 else 0),.int .i64 ((qX (x,0) s)).2],?_,rfl,(H5).lo.trans (hc.below (fun i hi=>by omega) (by have:=(H5).room;omega))⟩
 simp[results,go_sem,c6,c7]
theorem zuT (x s:Int) (hx:x=0∨x=1) (w:World):Calls Tryz.prog 148 #[.int .i64 2,.int .i64 x,.int .i64 s] w (zqt (qX (x,0) s) w):=by
 have hmf: ∀(fn:Fn) (first cap:Array Value) (w:World),(Instr.makeFunc fn first cap).run Tryz.prog w= .ok (.func fn first cap) w:=fun _ _ _ _=>rfl
 go_enter_defers Tryz.func148,Tryz.ntmps148
 go_wp2_with (go_at_call 218;refine(Y6 _).mono ?_;rintro e w' ⟨rfl,rfl⟩)
 refine wp_loop_rounds 5 ?_
 have H0:=TW.start w x
 generalize (((((w.alloc (.cells #[.int .i64 0] 2)).alloc (.cells #[.int .i64 0] 49)).alloc (.cells #[.int .i64 x,.int .i64 0] 242)).alloc (.cells #[.pointer (some ⟨w.heap.size+1+1,0,none⟩)] 240)).alloc (.cells #[.int .i64 1,.func (.func 285) #[] #[],.int .i64 2,.func (.func 287) #[] #[],.int .i64 3,.func (.func 288) #[] #[],.int .i64 4,.func (.func 289) #[] #[]] 247))=W0 at H0 ⊢
 rw[rounds_succ]
 go_wp2_with (first|((with_reducible refine qx [.int .i64 1,.func (.func 285) #[] #[]] zR (H0).bT rfl (by decide) rfl ?_))|((with_reducible refine qk (off:=0) (vs:=#[.int .i64 1,.func (.func 285) #[] #[]]) #[.int .i64 1,.func (.func 285) #[] #[]] zR (Blk.new' rfl) ?b1 ?b2 ?b3 ?b4 ?b5 ?b6 ?_);(case b1=>rfl);(case b2=>rfl);(case b3=>rfl);(case b4=>simp);(case b5=>simp[Value.oneCell']);(case b6=>rfl);intro w1 hB4 hC4;have H1:=(H0).next rfl hC4;have c0:(w1).cell? ⟨_,0,none⟩=some (.int .i64 1):=hB4.cell 0;have c1:(w1).cell? ⟨_,1,none⟩=some (.func (.func 285) #[] #[]):=hB4.cell 1;clear hB4 hC4))
 rw[rounds_succ]
 go_wp2_with (first|((with_reducible refine qx [.int .i64 2,.func (.func 287) #[] #[]] zR (H1).bT rfl (by decide) rfl ?_))|((with_reducible refine qk (off:=0) (vs:=#[.int .i64 2,.func (.func 287) #[] #[]]) #[.int .i64 2,.func (.func 287) #[] #[]] zR (Blk.new' rfl) ?b1 ?b2 ?b3 ?b4 ?b5 ?b6 ?_);(case b1=>rfl);(case b2=>rfl);(case b3=>rfl);(case b4=>simp);(case b5=>simp[Value.oneCell']);(case b6=>rfl);intro w2 hB4 hC4;have H2:=(H1).next rfl hC4;have c0:(w2).cell? ⟨_,0,none⟩=some (.int .i64 2):=hB4.cell 0;have c1:(w2).cell? ⟨_,1,none⟩=some (.func (.func 287) #[] #[]):=hB4.cell 1;have c8:(w2).cell? ⟨w.heap.size+1+1+1,0,none⟩=some (.pointer (some ⟨w.heap.size+1+1,0,none⟩)):=(H2).b8.cell 0;clear hB4 hC4)|(go_at_call 287;refine(zcu (zrO (x,0) x s hx) H2).mono ?_;rintro e w3 ⟨rfl,H3⟩))
 rw[rounds_succ]
 go_wp2_with (first|((with_reducible refine qx [.int .i64 3,.func (.func 288) #[] #[]] zR (H3).bT rfl (by decide) rfl ?_))|((with_reducible refine qk (off:=0) (vs:=#[.int .i64 3,.func (.func 288) #[] #[]]) #[.int .i64 3,.func (.func 288) #[] #[]] zR (Blk.new' rfl) ?b1 ?b2 ?b3 ?b4 ?b5 ?b6 ?_);(case b1=>rfl);(case b2=>rfl);(case b3=>rfl);(case b4=>simp);(case b5=>simp[Value.oneCell']);(case b6=>rfl);intro w4 hB4 hC4;have H4:=(H3).next rfl hC4;have c0:(w4).cell? ⟨_,0,none⟩=some (.int .i64 3):=hB4.cell 0;have c1:(w4).cell? ⟨_,1,none⟩=some (.func (.func 288) #[] #[]):=hB4.cell 1;clear hB4 hC4))
 rw[rounds_succ]
 go_wp2_with (first|((with_reducible refine qx [.int .i64 4,.func (.func 289) #[] #[]] zR (H4).bT rfl (by decide) rfl ?_))|((with_reducible refine qk (off:=0) (vs:=#[.int .i64 4,.func (.func 289) #[] #[]]) #[.int .i64 4,.func (.func 289) #[] #[]] zR (Blk.new' rfl) ?b1 ?b2 ?b3 ?b4 ?b5 ?b6 ?_);(case b1=>rfl);(case b2=>rfl);(case b3=>rfl);(case b4=>simp);(case b5=>simp[Value.oneCell']);(case b6=>rfl);intro w5 hB4 hC4;have H5:=(H4).next rfl hC4;have c0:(w5).cell? ⟨_,0,none⟩=some (.int .i64 4):=hB4.cell 0;have c1:(w5).cell? ⟨_,1,none⟩=some (.func (.func 289) #[] #[]):=hB4.cell 1;clear hB4 hC4))
 rw[rounds_succ]
 go_wp2_with fail
 refine leaves_cons (f:=217) (args:=#[.pointer (some ⟨w.heap.size+1+1+1,0,none⟩),.pointer (some ⟨w.heap.size,0,none⟩),.pointer (some ⟨w.heap.size+1,0,none⟩)]) (by simp) (by simp[go_sem]) ?_
 refine(zb5 _ _ _ _ _ _ .returning _ (H5).b8 (H5).b13 (H5).b6 (H5).b7 (by omega)).mono ?_
 rintro e u' w'' ⟨rfl,rfl,k6,k7,hc⟩
 have c6:w''.cell? ⟨w.heap.size,0,none⟩=some (.int .i64 (if((qX (x,0) s)).2=0 then((qX (x,0) s)).1 else 0)):=k6.cell 0
 have c7:w''.cell? ⟨w.heap.size+1,0,none⟩=some (.int .i64 ((qX (x,0) s)).2):=k7.cell 0
 refine⟨.tuple #[.int .i64 (if((qX (x,0) s)).2=0 then((qX (x,0) s)).1 else 0),.int .i64 ((qX (x,0) s)).2],?_,rfl,(H5).lo.trans (hc.below (fun i hi=>by omega) (by have:=(H5).room;omega))⟩
 simp[results,go_sem,c6,c7]
theorem ztp (x s:Int) (h0: ¬x=0) (h1: ¬x=1) (w:World):Calls Tryz.prog 148 #[.int .i64 2,.int .i64 x,.int .i64 s] w (zqt (x,49) w):=by
 have hmf: ∀(fn:Fn) (first cap:Array Value) (w:World),(Instr.makeFunc fn first cap).run Tryz.prog w= .ok (.func fn first cap) w:=fun _ _ _ _=>rfl
 go_enter_defers Tryz.func148,Tryz.ntmps148
 go_wp2_with (go_at_call 218;refine(Y6 _).mono ?_;rintro e w' ⟨rfl,rfl⟩)
 refine wp_loop_rounds 5 ?_
 have H0:=TW.start w x
 generalize (((((w.alloc (.cells #[.int .i64 0] 2)).alloc (.cells #[.int .i64 0] 49)).alloc (.cells #[.int .i64 x,.int .i64 0] 242)).alloc (.cells #[.pointer (some ⟨w.heap.size+1+1,0,none⟩)] 240)).alloc (.cells #[.int .i64 1,.func (.func 285) #[] #[],.int .i64 2,.func (.func 287) #[] #[],.int .i64 3,.func (.func 288) #[] #[],.int .i64 4,.func (.func 289) #[] #[]] 247))=W0 at H0 ⊢
 rw[rounds_succ]
 go_wp2_with (first|((with_reducible refine qx [.int .i64 1,.func (.func 285) #[] #[]] zR (H0).bT rfl (by decide) rfl ?_))|((with_reducible refine qk (off:=0) (vs:=#[.int .i64 1,.func (.func 285) #[] #[]]) #[.int .i64 1,.func (.func 285) #[] #[]] zR (Blk.new' rfl) ?b1 ?b2 ?b3 ?b4 ?b5 ?b6 ?_);(case b1=>rfl);(case b2=>rfl);(case b3=>rfl);(case b4=>simp);(case b5=>simp[Value.oneCell']);(case b6=>rfl);intro w1 hB4 hC4;have H1:=(H0).next rfl hC4;have c0:(w1).cell? ⟨_,0,none⟩=some (.int .i64 1):=hB4.cell 0;have c1:(w1).cell? ⟨_,1,none⟩=some (.func (.func 285) #[] #[]):=hB4.cell 1;clear hB4 hC4))
 rw[rounds_succ]
 go_wp2_with (first|((with_reducible refine qx [.int .i64 2,.func (.func 287) #[] #[]] zR (H1).bT rfl (by decide) rfl ?_))|((with_reducible refine qk (off:=0) (vs:=#[.int .i64 2,.func (.func 287) #[] #[]]) #[.int .i64 2,.func (.func 287) #[] #[]] zR (Blk.new' rfl) ?b1 ?b2 ?b3 ?b4 ?b5 ?b6 ?_);(case b1=>rfl);(case b2=>rfl);(case b3=>rfl);(case b4=>simp);(case b5=>simp[Value.oneCell']);(case b6=>rfl);intro w2 hB4 hC4;have H2:=(H1).next rfl hC4;have c0:(w2).cell? ⟨_,0,none⟩=some (.int .i64 2):=hB4.cell 0;have c1:(w2).cell? ⟨_,1,none⟩=some (.func (.func 287) #[] #[]):=hB4.cell 1;have c8:(w2).cell? ⟨w.heap.size+1+1+1,0,none⟩=some (.pointer (some ⟨w.heap.size+1+1,0,none⟩)):=(H2).b8.cell 0;clear hB4 hC4)|(go_at_call 287;refine(zcu (zrC (x,0) x s h0 h1) H2).mono ?_;rintro e w3 ⟨rfl,H3⟩))
 rw[rounds_succ]
 go_wp2_with (first|((with_reducible refine qx [.int .i64 3,.func (.func 288) #[] #[]] zR (H3).bT rfl (by decide) rfl ?_))|((with_reducible refine qk (off:=0) (vs:=#[.int .i64 3,.func (.func 288) #[] #[]]) #[.int .i64 3,.func (.func 288) #[] #[]] zR (Blk.new' rfl) ?b1 ?b2 ?b3 ?b4 ?b5 ?b6 ?_);(case b1=>rfl);(case b2=>rfl);(case b3=>rfl);(case b4=>simp);(case b5=>simp[Value.oneCell']);(case b6=>rfl);intro w4 hB4 hC4;have H4:=(H3).next rfl hC4;have c0:(w4).cell? ⟨_,0,none⟩=some (.int .i64 3):=hB4.cell 0;have c1:(w4).cell? ⟨_,1,none⟩=some (.func (.func 288) #[] #[]):=hB4.cell 1;clear hB4 hC4))
 rw[rounds_succ]
 go_wp2_with (first|((with_reducible refine qx [.int .i64 4,.func (.func 289) #[] #[]] zR (H4).bT rfl (by decide) rfl ?_))|((with_reducible refine qk (off:=0) (vs:=#[.int .i64 4,.func (.func 289) #[] #[]]) #[.int .i64 4,.func (.func 289) #[] #[]] zR (Blk.new' rfl) ?b1 ?b2 ?b3 ?b4 ?b5 ?b6 ?_);(case b1=>rfl);(case b2=>rfl);(case b3=>rfl);(case b4=>simp);(case b5=>simp[Value.oneCell']);(case b6=>rfl);intro w5 hB4 hC4;have H5:=(H4).next rfl hC4;have c0:(w5).cell? ⟨_,0,none⟩=some (.int .i64 4):=hB4.cell 0;have c1:(w5).cell? ⟨_,1,none⟩=some (.func (.func 289) #[] #[]):=hB4.cell 1;clear hB4 hC4))
 rw[rounds_succ]
 go_wp2_with fail
 refine leaves_cons (f:=217) (args:=#[.pointer (some ⟨w.heap.size+1+1+1,0,none⟩),.pointer (some ⟨w.heap.size,0,none⟩),.pointer (some ⟨w.heap.size+1,0,none⟩)]) (by simp) (by simp[go_sem]) ?_
 refine(zb5 _ _ _ _ _ _ .returning _ (H5).b8 (H5).b13 (H5).b6 (H5).b7 (by omega)).mono ?_
 rintro e u' w'' ⟨rfl,rfl,k6,k7,hc⟩
 have c6:w''.cell? ⟨w.heap.size,0,none⟩=some (.int .i64 (if(((x,49):Int×Int)).2=0 then(((x,49):Int×Int)).1 else 0)):=k6.cell 0
 have c7:w''.cell? ⟨w.heap.size+1,0,none⟩=some (.int .i64 (((x,49):Int×Int)).2):=k7.cell 0
 refine⟨.tuple #[.int .i64 (if(((x,49):Int×Int)).2=0 then(((x,49):Int×Int)).1 else 0),.int .i64 (((x,49):Int×Int)).2],?_,rfl,(H5).lo.trans (hc.below (fun i hi=>by omega) (by have:=(H5).room;omega))⟩
 simp[results,go_sem,c6,c7]
theorem zwd (x s:Int) (w:World):Calls Tryz.prog 148 #[.int .i64 3,.int .i64 x,.int .i64 s] w (zqt (qX (qX (x,0) x) s) w):=by
 have hmf: ∀(fn:Fn) (first cap:Array Value) (w:World),(Instr.makeFunc fn first cap).run Tryz.prog w= .ok (.func fn first cap) w:=fun _ _ _ _=>rfl
 go_enter_defers Tryz.func148,Tryz.ntmps148
 go_wp2_with (go_at_call 218;refine(Y6 _).mono ?_;rintro e w' ⟨rfl,rfl⟩)
 refine wp_loop_rounds 5 ?_
 have H0:=TW.start w x
 generalize (((((w.alloc (.cells #[.int .i64 0] 2)).alloc (.cells #[.int .i64 0] 49)).alloc (.cells #[.int .i64 x,.int .i64 0] 242)).alloc (.cells #[.pointer (some ⟨w.heap.size+1+1,0,none⟩)] 240)).alloc (.cells #[.int .i64 1,.func (.func 285) #[] #[],.int .i64 2,.func (.func 287) #[] #[],.int .i64 3,.func (.func 288) #[] #[],.int .i64 4,.func (.func 289) #[] #[]] 247))=W0 at H0 ⊢
 rw[rounds_succ]
 go_wp2_with (first|((with_reducible refine qx [.int .i64 1,.func (.func 285) #[] #[]] zR (H0).bT rfl (by decide) rfl ?_))|((with_reducible refine qk (off:=0) (vs:=#[.int .i64 1,.func (.func 285) #[] #[]]) #[.int .i64 1,.func (.func 285) #[] #[]] zR (Blk.new' rfl) ?b1 ?b2 ?b3 ?b4 ?b5 ?b6 ?_);(case b1=>rfl);(case b2=>rfl);(case b3=>rfl);(case b4=>simp);(case b5=>simp[Value.oneCell']);(case b6=>rfl);intro w1 hB4 hC4;have H1:=(H0).next rfl hC4;have c0:(w1).cell? ⟨_,0,none⟩=some (.int .i64 1):=hB4.cell 0;have c1:(w1).cell? ⟨_,1,none⟩=some (.func (.func 285) #[] #[]):=hB4.cell 1;clear hB4 hC4))
 rw[rounds_succ]
 go_wp2_with (first|((with_reducible refine qx [.int .i64 2,.func (.func 287) #[] #[]] zR (H1).bT rfl (by decide) rfl ?_))|((with_reducible refine qk (off:=0) (vs:=#[.int .i64 2,.func (.func 287) #[] #[]]) #[.int .i64 2,.func (.func 287) #[] #[]] zR (Blk.new' rfl) ?b1 ?b2 ?b3 ?b4 ?b5 ?b6 ?_);(case b1=>rfl);(case b2=>rfl);(case b3=>rfl);(case b4=>simp);(case b5=>simp[Value.oneCell']);(case b6=>rfl);intro w2 hB4 hC4;have H2:=(H1).next rfl hC4;have c0:(w2).cell? ⟨_,0,none⟩=some (.int .i64 2):=hB4.cell 0;have c1:(w2).cell? ⟨_,1,none⟩=some (.func (.func 287) #[] #[]):=hB4.cell 1;clear hB4 hC4))
 rw[rounds_succ]
 go_wp2_with (first|((with_reducible refine qx [.int .i64 3,.func (.func 288) #[] #[]] zR (H2).bT rfl (by decide) rfl ?_))|((with_reducible refine qk (off:=0) (vs:=#[.int .i64 3,.func (.func 288) #[] #[]]) #[.int .i64 3,.func (.func 288) #[] #[]] zR (Blk.new' rfl) ?b1 ?b2 ?b3 ?b4 ?b5 ?b6 ?_);(case b1=>rfl);(case b2=>rfl);(case b3=>rfl);(case b4=>simp);(case b5=>simp[Value.oneCell']);(case b6=>rfl);intro w3 hB4 hC4;have H3:=(H2).next rfl hC4;have c0:(w3).cell? ⟨_,0,none⟩=some (.int .i64 3):=hB4.cell 0;have c1:(w3).cell? ⟨_,1,none⟩=some (.func (.func 288) #[] #[]):=hB4.cell 1;have c8:(w3).cell? ⟨w.heap.size+1+1+1,0,none⟩=some (.pointer (some ⟨w.heap.size+1+1,0,none⟩)):=(H3).b8.cell 0;clear hB4 hC4)|(go_at_call 288;refine(zcu (zws (x,0) x s) H3).mono ?_;rintro e w4 ⟨rfl,H4⟩))
 rw[rounds_succ]
 go_wp2_with (first|((with_reducible refine qx [.int .i64 4,.func (.func 289) #[] #[]] zR (H4).bT rfl (by decide) rfl ?_))|((with_reducible refine qk (off:=0) (vs:=#[.int .i64 4,.func (.func 289) #[] #[]]) #[.int .i64 4,.func (.func 289) #[] #[]] zR (Blk.new' rfl) ?b1 ?b2 ?b3 ?b4 ?b5 ?b6 ?_);(case b1=>rfl);(case b2=>rfl);(case b3=>rfl);(case b4=>simp);(case b5=>simp[Value.oneCell']);(case b6=>rfl);intro w5 hB4 hC4;have H5:=(H4).next rfl hC4;have c0:(w5).cell? ⟨_,0,none⟩=some (.int .i64 4):=hB4.cell 0;have c1:(w5).cell? ⟨_,1,none⟩=some (.func (.func 289) #[] #[]):=hB4.cell 1;clear hB4 hC4))
 rw[rounds_succ]
 go_wp2_with fail
 refine leaves_cons (f:=217) (args:=#[.pointer (some ⟨w.heap.size+1+1+1,0,none⟩),.pointer (some ⟨w.heap.size,0,none⟩),.pointer (some ⟨w.heap.size+1,0,none⟩)]) (by simp) (by simp[go_sem]) ?_
 refine(zb5 _ _ _ _ _ _ .returning _ (H5).b8 (H5).b13 (H5).b6 (H5).b7 (by omega)).mono ?_
 rintro e u' w'' ⟨rfl,rfl,k6,k7,hc⟩
 have c6:w''.cell? ⟨w.heap.size,0,none⟩=some (.int .i64 (if((qX (qX (x,0) x) s)).2=0 then((qX (qX (x,0) x) s)).1 else 0)):=k6.cell 0
 have c7:w''.cell? ⟨w.heap.size+1,0,none⟩=some (.int .i64 ((qX (qX (x,0) x) s)).2):=k7.cell 0
 refine⟨.tuple #[.int .i64 (if((qX (qX (x,0) x) s)).2=0 then((qX (qX (x,0) x) s)).1 else 0),.int .i64 ((qX (qX (x,0) x) s)).2],?_,rfl,(H5).lo.trans (hc.below (fun i hi=>by omega) (by have:=(H5).room;omega))⟩
 simp[results,go_sem,c6,c7]
theorem zw2 (x s:Int) (w:World):Calls Tryz.prog 148 #[.int .i64 4,.int .i64 x,.int .i64 s] w (zqt (qX (x,0) 1) w):=by
 have hmf: ∀(fn:Fn) (first cap:Array Value) (w:World),(Instr.makeFunc fn first cap).run Tryz.prog w= .ok (.func fn first cap) w:=fun _ _ _ _=>rfl
 go_enter_defers Tryz.func148,Tryz.ntmps148
 go_wp2_with (go_at_call 218;refine(Y6 _).mono ?_;rintro e w' ⟨rfl,rfl⟩)
 refine wp_loop_rounds 5 ?_
 have H0:=TW.start w x
 generalize (((((w.alloc (.cells #[.int .i64 0] 2)).alloc (.cells #[.int .i64 0] 49)).alloc (.cells #[.int .i64 x,.int .i64 0] 242)).alloc (.cells #[.pointer (some ⟨w.heap.size+1+1,0,none⟩)] 240)).alloc (.cells #[.int .i64 1,.func (.func 285) #[] #[],.int .i64 2,.func (.func 287) #[] #[],.int .i64 3,.func (.func 288) #[] #[],.int .i64 4,.func (.func 289) #[] #[]] 247))=W0 at H0 ⊢
 rw[rounds_succ]
 go_wp2_with (first|((with_reducible refine qx [.int .i64 1,.func (.func 285) #[] #[]] zR (H0).bT rfl (by decide) rfl ?_))|((with_reducible refine qk (off:=0) (vs:=#[.int .i64 1,.func (.func 285) #[] #[]]) #[.int .i64 1,.func (.func 285) #[] #[]] zR (Blk.new' rfl) ?b1 ?b2 ?b3 ?b4 ?b5 ?b6 ?_);(case b1=>rfl);(case b2=>rfl);(case b3=>rfl);(case b4=>simp);(case b5=>simp[Value.oneCell']);(case b6=>rfl);intro w1 hB4 hC4;have H1:=(H0).next rfl hC4;have c0:(w1).cell? ⟨_,0,none⟩=some (.int .i64 1):=hB4.cell 0;have c1:(w1).cell? ⟨_,1,none⟩=some (.func (.func 285) #[] #[]):=hB4.cell 1;clear hB4 hC4))
 rw[rounds_succ]
 go_wp2_with (first|((with_reducible refine qx [.int .i64 2,.func (.func 287) #[] #[]] zR (H1).bT rfl (by decide) rfl ?_))|((with_reducible refine qk (off:=0) (vs:=#[.int .i64 2,.func (.func 287) #[] #[]]) #[.int .i64 2,.func (.func 287) #[] #[]] zR (Blk.new' rfl) ?b1 ?b2 ?b3 ?b4 ?b5 ?b6 ?_);(case b1=>rfl);(case b2=>rfl);(case b3=>rfl);(case b4=>simp);(case b5=>simp[Value.oneCell']);(case b6=>rfl);intro w2 hB4 hC4;have H2:=(H1).next rfl hC4;have c0:(w2).cell? ⟨_,0,none⟩=some (.int .i64 2):=hB4.cell 0;have c1:(w2).cell? ⟨_,1,none⟩=some (.func (.func 287) #[] #[]):=hB4.cell 1;clear hB4 hC4))
 rw[rounds_succ]
 go_wp2_with (first|((with_reducible refine qx [.int .i64 3,.func (.func 288) #[] #[]] zR (H2).bT rfl (by decide) rfl ?_))|((with_reducible refine qk (off:=0) (vs:=#[.int .i64 3,.func (.func 288) #[] #[]]) #[.int .i64 3,.func (.func 288) #[] #[]] zR (Blk.new' rfl) ?b1 ?b2 ?b3 ?b4 ?b5 ?b6 ?_);(case b1=>rfl);(case b2=>rfl);(case b3=>rfl);(case b4=>simp);(case b5=>simp[Value.oneCell']);(case b6=>rfl);intro w3 hB4 hC4;have H3:=(H2).next rfl hC4;have c0:(w3).cell? ⟨_,0,none⟩=some (.int .i64 3):=hB4.cell 0;have c1:(w3).cell? ⟨_,1,none⟩=some (.func (.func 288) #[] #[]):=hB4.cell 1;clear hB4 hC4))
 rw[rounds_succ]
 go_wp2_with (first|((with_reducible refine qx [.int .i64 4,.func (.func 289) #[] #[]] zR (H3).bT rfl (by decide) rfl ?_))|((with_reducible refine qk (off:=0) (vs:=#[.int .i64 4,.func (.func 289) #[] #[]]) #[.int .i64 4,.func (.func 289) #[] #[]] zR (Blk.new' rfl) ?b1 ?b2 ?b3 ?b4 ?b5 ?b6 ?_);(case b1=>rfl);(case b2=>rfl);(case b3=>rfl);(case b4=>simp);(case b5=>simp[Value.oneCell']);(case b6=>rfl);intro w4 hB4 hC4;have H4:=(H3).next rfl hC4;have c0:(w4).cell? ⟨_,0,none⟩=some (.int .i64 4):=hB4.cell 0;have c1:(w4).cell? ⟨_,1,none⟩=some (.func (.func 289) #[] #[]):=hB4.cell 1;have c8:(w4).cell? ⟨w.heap.size+1+1+1,0,none⟩=some (.pointer (some ⟨w.heap.size+1+1,0,none⟩)):=(H4).b8.cell 0;clear hB4 hC4)|(go_at_call 289;refine(zcu (zxF (x,0) x s) H4).mono ?_;rintro e w5 ⟨rfl,H5⟩))
 rw[rounds_succ]
 go_wp2_with fail
 refine leaves_cons (f:=217) (args:=#[.pointer (some ⟨w.heap.size+1+1+1,0,none⟩),.pointer (some ⟨w.heap.size,0,none⟩),.pointer (some ⟨w.heap.size+1,0,none⟩)]) (by simp) (by simp[go_sem]) ?_
 refine(zb5 _ _ _ _ _ _ .returning _ (H5).b8 (H5).b13 (H5).b6 (H5).b7 (by omega)).mono ?_
 rintro e u' w'' ⟨rfl,rfl,k6,k7,hc⟩
 have c6:w''.cell? ⟨w.heap.size,0,none⟩=some (.int .i64 (if((qX (x,0) 1)).2=0 then((qX (x,0) 1)).1 else 0)):=k6.cell 0
 have c7:w''.cell? ⟨w.heap.size+1,0,none⟩=some (.int .i64 ((qX (x,0) 1)).2):=k7.cell 0
 refine⟨.tuple #[.int .i64 (if((qX (x,0) 1)).2=0 then((qX (x,0) 1)).1 else 0),.int .i64 ((qX (x,0) 1)).2],?_,rfl,(H5).lo.trans (hc.below (fun i hi=>by omega) (by have:=(H5).room;omega))⟩
 simp[results,go_sem,c6,c7]
end Go.Proofs.YtbcbnfiedgnfpaaGreat
