import Derived.Test.YtbcbnfiedgnfpaaGreatZ09
import Derived.Test.YtbcbnfiedgnfpaaGreatZ08
set_option linter.unusedSimpArgs false
set_option linter.unusedVariables false
set_option maxRecDepth 100000
set_option maxHeartbeats 2000000
namespace Go.Proofs.YtbcbnfiedgnfpaaGreat
open Go.Dl
attribute [local irreducible] DW yE zY zA zu zky
attribute [local push_cast] zZ qF qC zN zM zD zE qH qE qz Go.Dl.qY yT qy List.mem_cons List.not_mem_nil or_false forall_eq false_implies implies_true
attribute [local irreducible] jR JY zao Zc zhy
abbrev rXX (x:Ex×Ex):V:=.tup [(true,[.f (eB x.1.has),.f (eI x.1.val),.f (eI x.1.org),.f (eI x.1.age)]),(true,[.f (eB x.2.has),.f (eI x.2.val),.f (eI x.2.org),.f (eI x.2.age)])]
def zeb (id:Int) (a b c d:Ex):Ex×Ex:=(Zc 1 a (jR id c),Zc (-1) b (jR id d))
theorem zrg (id:Int) (h1:Bool) (v1 o1 g1:Int) (h2:Bool) (v2 o2 g2:Int) (h3:Bool) (v3 o3 g3:Int) (h4:Bool) (v4 o4 g4:Int):
  zu Tryz.prog 366 [gI id,gX ⟨h1,v1,o1,g1⟩,gX ⟨h2,v2,o2,g2⟩,gX ⟨h3,v3,o3,g3⟩,gX ⟨h4,v4,o4,g4⟩] (rXX (zeb id ⟨h1,v1,o1,g1⟩ ⟨h2,v2,o2,g2⟩ ⟨h3,v3,o3,g3⟩ ⟨h4,v4,o4,g4⟩)):=by
 refine enx [.cell 10 68,.cell 11 68] Tryz.func366 fun X w0=>?_
 repeat'(first|(refine spl ?_ ?_<;>(intro hb;refine ne ?_))|(refine zl hR ?_;clear hR)|refine s1 ?_|exact True.intro|refine rdb [] ?_|refine cad (zar _ _ _ _ _) ?_|refine cad (zbB _ _ _ _ _ _ _ _) ?_|refine cad (YV _ _ _ _ _ _ _ _) ?_|(refine s2 ?_;try with_reducible intro R hR)|fail)
 all_goals(refine gz ?_;grind[zeb])
def zlW (id n:Int) (a b:Ex):Ex×Ex:=(Zc 1 (jR id a) (zao id n),Zc (-1) (jR id b) (zao id n))
theorem zny (id n:Int) (h1:Bool) (v1 o1 g1:Int) (h2:Bool) (v2 o2 g2:Int):
  zu Tryz.prog 246 [gI id,gI n,gX ⟨h1,v1,o1,g1⟩,gX ⟨h2,v2,o2,g2⟩] (rXX (zlW id n ⟨h1,v1,o1,g1⟩ ⟨h2,v2,o2,g2⟩)):=by
 refine enx [.cell 8 68,.cell 9 68] Tryz.func246 fun X w0=>?_
 repeat'(first|(refine spl ?_ ?_<;>(intro hb;refine ne ?_))|(refine zl hR ?_;clear hR)|refine s1 ?_|exact True.intro|refine rdb [] ?_|refine cad (zar _ _ _ _ _) ?_|refine cad (zff _ _) ?_|refine cad (zbB _ _ _ _ _ _ _ _) ?_|refine cad (YV _ _ _ _ _ _ _ _) ?_|(refine s2 ?_;try with_reducible intro R hR)|fail)
 all_goals(refine gz ?_;grind[zlW])
def zbZ (id:Int) (has:Bool) (n:Int) (a b:Ex):Ex×Ex:=
 if has then(Zc 1 (jR id (JY a)) (zao id n),Zc (-1) (jR id (JY b)) (zao id n))else(jR id (JY a),jR id (JY b))
theorem zkX (id:Int) (has:Bool) (n:Int) (h1:Bool) (v1 o1 g1:Int) (h2:Bool) (v2 o2 g2:Int):
  zu Tryz.prog 313 [gI id,gB has,gI n,gX ⟨h1,v1,o1,g1⟩,gX ⟨h2,v2,o2,g2⟩] (rXX (zbZ id has n ⟨h1,v1,o1,g1⟩ ⟨h2,v2,o2,g2⟩)):=by
 refine enx [.cell 10 68,.cell 11 68] Tryz.func313 fun X w0=>?_
 repeat'(first|(refine spl ?_ ?_<;>(intro hb;refine ne ?_))|(refine zl hR ?_;clear hR)|refine s1 ?_|exact True.intro|refine rdb [] ?_|refine rex [] ?_|refine cal (zar _ _ _ _ _) ?_|refine cal (zod _ _ _ _) ?_|refine cad (zff _ _) ?_|refine cad (zbB _ _ _ _ _ _ _ _) ?_|refine cad (YV _ _ _ _ _ _ _ _) ?_|(refine s2 ?_;try with_reducible intro R hR)|fail)
 all_goals(refine gz ?_;grind[zbZ])
end Go.Proofs.YtbcbnfiedgnfpaaGreat
namespace Go.Proofs.YtbcbnfiedgnfpaaGreat
open Go.Dl
attribute [local irreducible] DW yE zY zA zu zky
attribute [local push_cast] zZ qF qC zN zM zD zE qH qE qz Go.Dl.qY yT qy List.mem_cons List.not_mem_nil or_false forall_eq false_implies implies_true
structure Ln where
 nm:ByteArray
 ver:Int
 wt:Int
 fl:Int
structure Hf where
 peer:Int
 boot:Int
 life:Int
 lines:List Ln
 pend:Bool
 miss:Int
def ZY (x:Ln):List F:=[eS x.nm,eI x.ver,eI x.wt,eI x.fl]
attribute [push_cast] ZY
abbrev gNs (l:List Ln):V:=.c (.f (.l 4 (l.map ZY)))
abbrev gH (h:Hf):V:=.agg [.f (eI h.peer),.f (eI h.boot),.f (eI h.life),.f (.l 4 (h.lines.map ZY)),.f (eB h.pend),.f (eI h.miss)]
theorem Hf.eta (h:Hf):(⟨h.peer,h.boot,h.life,h.lines,h.pend,h.miss⟩:Hf)=h:=rfl
attribute [push_cast] Hf.eta
theorem zbJ (p b l:Int) (ls:List Ln) (pe:Bool) (m:Int) (hl:ls.length*64≤140737488355328):zu Tryz.prog 314 [gH ⟨p,b,l,ls,pe,m⟩] (gH ⟨p,b,l,ls,pe,m⟩):=by
 refine enx [.cell 2 43] Tryz.func314 fun X w0=>?_
 repeat'(first|(refine spl ?_ ?_<;>(intro hb;refine ne ?_))|(refine zl hR ?_;clear hR)|refine s1 ?_|exact True.intro|fail|(refine s2 ?_;try with_reducible intro R hR)|fail)
def Yj (h:Hf):Hf:=⟨h.peer,h.boot,h.life,h.lines,true,h.miss⟩
theorem zmP (p b l:Int) (ls:List Ln) (pe:Bool) (m:Int) (hl:ls.length*64≤140737488355328):zu Tryz.prog 307 [gH ⟨p,b,l,ls,pe,m⟩] (gH (Yj ⟨p,b,l,ls,pe,m⟩)):=by
 refine enx [.cell 2 43] Tryz.func307 fun X w0=>?_
 repeat'(first|(refine spl ?_ ?_<;>(intro hb;refine ne ?_))|(refine zl hR ?_;clear hR)|refine s1 ?_|exact True.intro|refine cal (zbJ _ _ _ _ _ _ (by omega)) ?_|(refine s2 ?_;try with_reducible intro R hR)|fail)
 all_goals(refine gz ?_;grind[Yj])
def ZR (h:Hf):Hf:=⟨h.peer,h.boot,h.life,h.lines,h.pend,0⟩
theorem Jz (p b l:Int) (ls:List Ln) (pe:Bool) (m:Int) (hl:ls.length*64≤140737488355328):zu Tryz.prog 317 [gH ⟨p,b,l,ls,pe,m⟩] (gH (ZR ⟨p,b,l,ls,pe,m⟩)):=by
 refine enx [.cell 2 43] Tryz.func317 fun X w0=>?_
 repeat'(first|(refine spl ?_ ?_<;>(intro hb;refine ne ?_))|(refine zl hR ?_;clear hR)|refine s1 ?_|exact True.intro|refine cal (zbJ _ _ _ _ _ _ (by omega)) ?_|(refine s2 ?_;try with_reducible intro R hR)|fail)
 all_goals(refine gz ?_;grind[ZR])
def Yc (h:Hf):Hf:=⟨h.peer,h.boot,h.life,h.lines,false,0⟩
theorem zbg (p b l:Int) (ls:List Ln) (pe:Bool) (m:Int) (hl:ls.length*64≤140737488355328):zu Tryz.prog 318 [gH ⟨p,b,l,ls,pe,m⟩] (gH (Yc ⟨p,b,l,ls,pe,m⟩)):=by
 refine enx [.cell 2 43] Tryz.func318 fun X w0=>?_
 repeat'(first|(refine spl ?_ ?_<;>(intro hb;refine ne ?_))|(refine zl hR ?_;clear hR)|refine s1 ?_|exact True.intro|refine cal (Jz _ _ _ _ _ _ (by omega)) ?_|(refine s2 ?_;try with_reducible intro R hR)|fail)
 all_goals(refine gz ?_;grind[Yc,ZR])
abbrev zbr:Hf:=⟨0,0,0,[],false,0⟩
def yO (h:Hf):Hf×Int:=
 if !h.pend then(⟨h.peer,h.boot,h.life,h.lines,true,h.miss⟩,1)else if decide (3≤wr (h.miss+1))then(zbr,2)else(⟨h.peer,h.boot,h.life,h.lines,true,wr (h.miss+1)⟩,1)
abbrev cH (h:Hf):List C:=[.f (eI h.peer),.f (eI h.boot),.f (eI h.life),.f (.l 4 (h.lines.map ZY)),.f (eB h.pend),.f (eI h.miss)]
abbrev rHI (x:Hf×Int):V:=.tup [(true,cH x.1),(false,[.f (eI x.2)])]
theorem zhi (p b l:Int) (ls:List Ln) (pe:Bool) (m:Int) (hl:ls.length*64≤140737488355328):zu Tryz.prog 249 [gH ⟨p,b,l,ls,pe,m⟩] (rHI (yO ⟨p,b,l,ls,pe,m⟩)):=by
 refine enx [.cell 2 43,.tmp 3] Tryz.func249 fun X w0=>?_
 repeat'(first|(refine spl ?_ ?_<;>(intro hb;refine ne ?_))|(refine zl hR ?_;clear hR)|refine s1 ?_|exact True.intro|refine rdb [] ?_|refine cal (zbJ _ _ _ _ _ _ (by omega)) ?_|(refine s2 ?_;try with_reducible intro R hR)|fail)
 all_goals(refine gz ?_;grind[yO])
def jI (h:Hf):List F:=[eI h.peer,eI h.boot,eI h.life,.l 4 (h.lines.map ZY),eB h.pend,eI h.miss]
attribute [push_cast] jI
attribute [simp] jI ZY
abbrev Zs (l:List Hf):V:=.c (.f (.l 6 (l.map jI)))
def zbe (id:Int) (nm:ByteArray) (p:Int):List Ln→List (Int×Int)
 |[]=>[]
 |x::l=>if x.nm.toList==nm.toList then(p,outR x.ver x.wt x.fl id p)::zbe id nm p l else zbe id nm p l
def ZH (id:Int) (nm:ByteArray):List Hf→List (Int×Int)
 |[]=>[]
 |h::l=>zbe id nm h.peer h.lines++ZH id nm l
abbrev gE (p:Int×Int):List V:=[gI p.1,gI p.2]
attribute [push_cast] gE
def zaY (l:List Hf):Prop:=l.length<9223372036854775807∧∀h∈l,h.lines.length<9223372036854775807
theorem zrq (n:Int):zu Tryz.prog 139 [gI n] (gB true):=by
 refine enx [.tmp 2] Tryz.func139 fun X w0=>?_
 repeat'(first|(refine spl ?_ ?_<;>(intro hb;refine ne ?_))|(refine zl hR ?_;clear hR)|refine s1 ?_|exact True.intro|fail|(refine s2 ?_;try with_reducible intro R hR)|fail)
theorem zh1 (id:Int) (l:List Hf) (nm:ByteArray):zu Tryz.prog 206 [gI id,Zs l,gS nm] (.clo 279 [] [.rd [.l 6 (l.map jI)],.rd [eS nm],.rd [eI id]]):=by
 refine enx [.tmp 6] Tryz.func206 fun X w0=>?_
 repeat'(first|(refine spl ?_ ?_<;>(intro hb;refine ne ?_))|(refine zl hR ?_;clear hR)|refine s1 ?_|exact True.intro|(refine fzx 4 ?_;refine fzx 5 ?_;refine fzx 3 ?_;refine jE ?_)|(refine s2 ?_;try with_reducible intro R hR)|fail)
theorem zms (n p:Int):zu Tryz.prog 138 [gI n,.rd [eI p]] (gB (decide (n≠p))):=by
 refine enx [.tmp 3] Tryz.func138 fun X w0=>?_
 repeat'(first|(refine spl ?_ ?_<;>(intro hb;refine ne ?_))|(refine zl hR ?_;clear hR)|refine s1 ?_|exact True.intro|fail|(refine s2 ?_;try with_reducible intro R hR)|fail)
 all_goals(refine gz ?_;grind[])
theorem zft (id:Int) (l:List Hf) (nm:ByteArray) (hl:zaY l) (M:Nat):Qx Tryz.prog 279 [.rd [.l 6 (l.map jI)],.rd [eS nm],.rd [eI id]] (elL (ZH id nm l) gE) M:=by
 obtain⟨hl,hL⟩:=hl
 refine Qh Tryz.func279 rfl (by decide) (by simp[Tryz.ntmps279]) rfl (fun I J yl hJ hY hM=>?_)
 repeat'(first|(refine spl ?_ ?_<;>(intro hb;refine ne ?_))|(refine ZC hR ?_;clear hR)|refine t1 ?_|exact True.intro|((with_reducible first|refine Qj ?_|refine Qk ?_);intro n hn;cases hn)|((with_reducible refine Yf ?_);refine zay (ι:=Nat) (l.length) (fun _ n=>some n) (fun k _=>St.ofA [(0,yV yl),(1,.rd [.l 6 (l.map jI)]),(2,.rd [eS nm]),(3,.rd [eI id]),(9,Zs l),(10,gI l.length),(11,gI k)] [] []) (fun k n=>(ZH id nm l).drop n=ZH id nm (l.drop k)) 0 hJ (by omega) hT (by decide) (fun k x=>⟨by rfl,by rfl⟩) (by rfl) (fun X hb=>(by(refine Qn hb rfl ?_ ?_ ?_<;>simp);done)) ?_ (fun k n hqn hkk=>?_) (fun n hqn=>?_))|(have hLk:=hL _ (List.getElem_mem hkk);((with_reducible refine Yf ?_);refine zay (ι:=Nat) (l[k].lines.length) (fun _ n=>some n) (fun j _=>St.ofA [(0,yV yl),(1,.rd [.l 6 (l.map jI)]),(2,.rd [eS nm]),(3,.rd [eI id]),(6,.loc 6 0),(9,Zs l),(10,gI l.length),(11,gI k),(16,.c (.f (.l 4 (l[k].lines.map ZY)))),(17,gI l[k].lines.length),(18,gI j)] [(6,43,cH l[k])] []) (fun j n=>(ZH id nm l).drop n=zbe id nm l[k].peer (l[k].lines.drop j)++ZH id nm (l.drop (k+1))) n hJ (by omega) hT (by decide) (fun k x=>⟨by rfl,by rfl⟩) (by rfl) (fun X hb=>(by(refine Qn hb rfl ?_ ?_ ?_<;>simp);done)) ?_ (fun j m hqm hkj=>?_) (fun m hqm=>?_)))|(refine zjh hJ 14 [] hT rfl (by decide) (by decide+kernel) (by decide) (by decide+kernel) rfl ?_;simp only[push_cast,seval, *])|refine cad (zmv _ _ _ _ _) ?_|refine lat ?_|(refine qM hY rfl rfl (by rfl) rfl (by simp only[push_cast,seval, *];exact(zf7 (f:=gE) (by rw[hqm,zP hkj,zbe,if_pos hb];rfl)).1) (by rfl) ?_ ?_<;>simp only[push_cast,seval, *])|(refine zn8 (m+1) rfl ?_ ?_ ?_;(focus(intro X hb;(refine Qn hb rfl ?_ ?_ ?_<;>simp);done));(focus(simp only[push_cast,seval, *];done)))|(refine zn8 (m) rfl ?_ ?_ ?_;(focus(intro X hb;(refine Qn hb rfl ?_ ?_ ?_<;>simp);done));(focus(simp only[push_cast,seval, *];done)))|(refine t2 ?_;try with_reducible intro R hR)|fail)
 all_goals first|rfl|skip
 ·rw[hqn,zP hkk];simp[ZH]
 ·exact(zf7 (f:=gE) (by rw[hqm,zP hkj,zbe,if_pos hb];rfl)).2
 ·rw[hqm,zP hkj,zbe,if_neg (by simp[hb])]
 ·rw[hqm];simp[zbe]
 ·exact zkB (by rw[hqn];simp[ZH])
def zdK (sg:Int) (q:Int→Bool) (l:List (Int×Int)) (s:Int):Int:=match l with
 |[]=>s
 |x::l=>zdK sg q l (if q x.1 then wr (s+wr (sg*x.2))else s)
theorem zfr (sg:Int) (q:Int→Bool) (s:Int):zdK sg q [] s=s:=rfl
theorem zdN (sg:Int) (q:Int→Bool) (x:Int×Int) (l:List (Int×Int)) (s:Int):zdK sg q (x::l) s=zdK sg q l (if q x.1 then wr (s+wr (sg*x.2))else s):=rfl
def zeu (s:Int):Int×Int:=if flowB s then(s,0)else(0,10)
theorem zqf (fr sg id:Int) (l:List Hf) (nm:ByteArray) (hl:zaY l):zu Tryz.prog 137 [gI fr,gI sg,gI id,Zs l,gS nm,.c (.f (.s (.func (.func 139) #[] #[])))] (rII (zeu (zdK sg (fun _=>true) (ZH id nm l) fr))):=by
 refine enx [.tmp 12,.tmp 13] Tryz.func137 fun X w0=>?_
 repeat'(first|(refine spl ?_ ?_<;>(intro hb;refine ne ?_))|(refine zl hR ?_;clear hR)|refine s1 ?_|exact True.intro|refine cal (zh1 _ _ _) ?_|refine cal (zaU _) ?_|refine cav (zrq _) ?_|(first|(refine zjx (by assumption) ?_;intro XX I0 w2 RQ hRn hRr hRe)|refine ziM (by assumption) ?_|refine zjJ (by assumption) ?_)|refine Zw (ι:=Int) [(6,.loc 6 0),(7,.loc 7 0),(11,.loc 11 0),(12,gI 0),(13,gI 0),(19,.clo 279 [] [.rd [.l 6 (l.map jI)],.rd [eS nm],.rd [eI id]])] (fun _ s=>[(6,2,[.f (eI s)]),(7,2,[.f (eI sg)]),(11,106,[.f (.s (.func (.func 139) #[] #[]))])]) (fun _ _=>[]) (fun k s=>zdK sg (fun _=>true) (ZH id nm l) fr=zdK sg (fun _=>true) ((ZH id nm l).drop k) s) fr [6,7,11] (.inl rfl) (by(refine zp rfl ?_ ?_ ?_<;>simp);done) ?_ (by rfl) (by rfl) (by rfl) (by rfl) (by rfl) (zft id l nm hl _) (fun _=>by rfl) (by decide) (fun k s hkk hqs XX I0 Gr lr w1 hG RA hRA=>?_) (fun s hqs=>?_)|(refine zek (by assumption) (wr (s+wr (sg*(ZH id nm l)[k].2))) ?_ ?_;(focus((refine zp rfl ?_ ?_ ?_<;>simp);done)))|(refine zek (by assumption) (s) ?_ ?_;(focus((refine zp rfl ?_ ?_ ?_<;>simp);done)))|(refine s2 ?_;try with_reducible intro R hR)|fail)
 all_goals(refine gz ?_;grind[zfr,zdN,zeu,zP])
theorem znh (fr sg id:Int) (l:List Hf) (nm:ByteArray) (p:Int) (hl:zaY l):zu Tryz.prog 137 [gI fr,gI sg,gI id,Zs l,gS nm,.clo 138 [] [.rd [eI p]]] (rII (zeu (zdK sg (fun n=>decide (n≠p)) (ZH id nm l) fr))):=by
 refine enx [.tmp 12,.tmp 13] Tryz.func137 fun X w0=>?_
 repeat'(first|(refine spl ?_ ?_<;>(intro hb;refine ne ?_))|(refine zl hR ?_;clear hR)|refine s1 ?_|exact True.intro|refine cal (zh1 _ _ _) ?_|refine cal (zaU _) ?_|refine cav (zms _ _) ?_|(first|(refine zjx (by assumption) ?_;intro XX I0 w2 RQ hRn hRr hRe)|refine ziM (by assumption) ?_|refine zjJ (by assumption) ?_)|refine Zw (ι:=Int) [(6,.loc 6 0),(7,.loc 7 0),(11,.loc 11 0),(12,gI 0),(13,gI 0),(19,.clo 279 [] [.rd [.l 6 (l.map jI)],.rd [eS nm],.rd [eI id]])] (fun _ s=>[(6,2,[.f (eI s)]),(7,2,[.f (eI sg)]),(11,106,[.f (.fc 138 [[eI p]])])]) (fun _ _=>[]) (fun k s=>zdK sg (fun n=>decide (n≠p)) (ZH id nm l) fr=zdK sg (fun n=>decide (n≠p)) ((ZH id nm l).drop k) s) fr [6,7,11] (.inl rfl) (by(refine zp rfl ?_ ?_ ?_<;>simp);done) ?_ (by rfl) (by rfl) (by rfl) (by rfl) (by rfl) (zft id l nm hl _) (fun _=>by rfl) (by decide) (fun k s hkk hqs XX I0 Gr lr w1 hG RA hRA=>?_) (fun s hqs=>?_)|(refine zek (by assumption) (wr (s+wr (sg*(ZH id nm l)[k].2))) ?_ ?_;(focus((refine zp rfl ?_ ?_ ?_<;>simp);done)))|(refine zek (by assumption) (s) ?_ ?_;(focus((refine zp rfl ?_ ?_ ?_<;>simp);done)))|(refine s2 ?_;try with_reducible intro R hR)|fail)
 all_goals(refine gz ?_;grind[zfr,zdN,zeu,zP])
def zxY (id inp:Int) (l:List Hf) (nm:ByteArray):Int×Int:=zeu (zdK (-1) (fun _=>true) (ZH id nm l) inp)
def Yt (id inp:Int) (l:List Hf) (nm:ByteArray) (p:Int):Int×Int:=zeu (zdK (-1) (fun n=>decide (n≠p)) (ZH id nm l) inp)
theorem zeU (id inp:Int) (l:List Hf) (nm:ByteArray) (hl:zaY l):zu Tryz.prog 68 [gI id,gI inp,Zs l,gS nm] (rII (zxY id inp l nm)):=by
 refine enx [.tmp 8,.tmp 9] Tryz.func68 fun X w0=>?_
 repeat'(first|(refine spl ?_ ?_<;>(intro hb;refine ne ?_))|(refine zl hR ?_;clear hR)|refine s1 ?_|exact True.intro|refine cal (zqf _ _ _ _ _ hl) ?_|(refine s2 ?_;try with_reducible intro R hR)|fail)
 all_goals(refine gz ?_;grind[zxY])
theorem znr (id inp:Int) (l:List Hf) (nm:ByteArray) (p:Int) (hl:zaY l):zu Tryz.prog 67 [gI id,gI inp,Zs l,gS nm,gI p] (rII (Yt id inp l nm p)):=by
 refine enx [.tmp 10,.tmp 11] Tryz.func67 fun X w0=>?_
 repeat'(first|(refine spl ?_ ?_<;>(intro hb;refine ne ?_))|(refine zl hR ?_;clear hR)|refine s1 ?_|exact True.intro|(refine Qo (zV (t:=9) rfl rfl rfl) ?_;refine cal (znh _ _ _ _ _ _ hl) ?_)|(refine s2 ?_;try with_reducible intro R hR)|fail)
 all_goals(refine gz ?_;grind[Yt])
attribute [simp] Z3
def HOk (l:List Hf):Prop:=l.length≤1048576∧∀h∈l,h.lines.length≤1048576
theorem HOk.at {l:List Hf} (h:HOk l) {k:Nat} (hk:k<l.length):l[k].lines.length≤1048576:=h.2 _ (List.getElem_mem hk)
theorem HOk.lines {l:List Hf} (h:HOk l):zaY l:=⟨by have:=h.1;omega,fun x hx=>by have:=h.2 x hx;omega⟩
abbrev Yb (p b l:Int) (ls:List Ln) (pe:Bool) (m:Int):V:=gH ⟨p,b,l,ls,pe,m⟩
theorem zkn (l:List Ln) (hl:l.length≤1048576):zu Tryz.prog 267 [gNs l] (gNs l):=by
 refine enx [.tmp 2] Tryz.func267 fun X w0=>?_
 repeat'(first|(refine spl ?_ ?_<;>(intro hb;refine ne ?_))|(refine zl hR ?_;clear hR)|refine s1 ?_|exact True.intro|(refine jU (by rfl) hT zsf (by rfl) (by rfl) (fun c hc=>?_);cases c<;>try simp only[push_cast,seval, *])|(refine j7 (by rfl) hT zsf (by rfl) (by rfl) (by rfl) ?_;simp only[push_cast,seval, *])|(refine s2 ?_;try with_reducible intro R hR)|fail)
 all_goals(refine gz ?_;grind[])
theorem QX (p b l:Int) (ls:List Ln) (pe:Bool) (m:Int) (hl:ls.length≤1048576):zu Tryz.prog 191 [Yb p b l ls pe m] (Yb p b l ls pe m):=by
 refine enx [.cell 2 43] Tryz.func191 fun X w0=>?_
 repeat'(first|(refine spl ?_ ?_<;>(intro hb;refine ne ?_))|(refine zl hR ?_;clear hR)|refine s1 ?_|exact True.intro|refine cal (zkn _ hl) ?_|(refine s2 ?_;try with_reducible intro R hR)|fail)
theorem Jj (p b l:Int) (ls:List Ln) (pe:Bool) (m:Int) (hl:ls.length≤1048576):zu Tryz.prog 65 [Yb p b l ls pe m] (Yb p b l ls pe m):=by
 refine enx [.cell 2 43] Tryz.func65 fun X w0=>?_
 repeat'(first|(refine spl ?_ ?_<;>(intro hb;refine ne ?_))|(refine zl hR ?_;clear hR)|refine s1 ?_|exact True.intro|fail|(refine s2 ?_;try with_reducible intro R hR)|fail)
theorem zn6 (l:List Hf) (hl:HOk l):zu Tryz.prog 124 [Zs l] (Zs l):=by
 have hl1:=hl.1
 refine enx [.tmp 2] Tryz.func124 fun X w0=>?_
 repeat'(first|(refine spl ?_ ?_<;>(intro hb;refine ne ?_))|(refine zl hR ?_;clear hR)|refine s1 ?_|exact True.intro|refine cal (QX _ _ _ _ _ _ (hl.at hk)) ?_|((with_reducible refine zW ?_);refine zgC 3 90 43 6 ?_;refine rgx (ι:=List Hf×Nat) (l.length) (fun k x=>St.ofA [(3,.c (.o 90)),(6,Zs l),(7,gI l.length),(8,gI k)] [] [(90,x.2,43,6,x.1.map jI)]) (fun k x=>l.take k=x.1∧x.1.length=k) ([],90) ?_ (fun k x hJ hk=>?_) (fun x hJ=>?_))|refine rnx ((x.1++[l[k]],16)) ?_|(refine s2 ?_;try with_reducible intro R hR)|fail)
 all_goals(refine gz ?_;grind[qJ,jI])
theorem zkg (l:List Hf) (hl:HOk l):zu Tryz.prog 94 [Zs l] (Zs l):=by
 have hl1:=hl.1
 refine enx [.tmp 2] Tryz.func94 fun X w0=>?_
 repeat'(first|(refine spl ?_ ?_<;>(intro hb;refine ne ?_))|(refine zl hR ?_;clear hR)|refine s1 ?_|exact True.intro|refine cal (Jj _ _ _ _ _ _ (hl.at hb)) ?_|((with_reducible refine zO ?_);refine zgC 3 90 43 6 ?_;refine frx (ι:=List Hf×Nat) (l.length) (fun k x=>St.ofA [(0,Zs l),(3,.c (.o 90)),(4,gI k)] [] [(90,x.2,43,6,x.1.map jI)]) (fun k x=>l.take k=x.1∧x.1.length=k) ([],90) ?_ (fun k x hJ hk R hR=>?_))|refine fnx ((x.1++[l[k]],18)) ?_ ?_|(refine s2 ?_;try with_reducible intro R hR)|fail)
 all_goals(refine gz ?_;grind[qJ,jI])
abbrev qg (l:List Hf):List Int:=l.map (·.peer)
theorem zmh (l:List Hf) (hl:HOk l):zu Tryz.prog 216 [Zs l] (gZ (qg l)):=by
 have hl1:=hl.1
 refine enx [.tmp 2] Tryz.func216 fun X w0=>?_
 repeat'(first|(refine spl ?_ ?_<;>(intro hb;refine ne ?_))|(refine zl hR ?_;clear hR)|refine s1 ?_|exact True.intro|((with_reducible refine zW ?_);refine zgC 3 90 3 1 ?_;refine rgx (ι:=List Int×Nat) (l.length) (fun k x=>St.ofA [(3,.c (.o 90)),(6,Zs l),(7,gI l.length),(8,gI k)] [] [(90,x.2,3,1,x.1.map Z3)]) (fun k x=>(qg l).take k=x.1∧x.1.length=k) ([],90) ?_ (fun k x hJ hk=>?_) (fun x hJ=>?_))|refine rnx ((x.1++[l[k].peer],16)) ?_|(refine s2 ?_;try with_reducible intro R hR)|fail)
 all_goals(refine gz ?_;grind[qJ,Z3])
theorem Zq (l:List Hf) (hl:HOk l):zu Tryz.prog 242 [Zs l] (gZ (qg l)):=by
 have hl1:=hl.1
 refine enx [.tmp 2] Tryz.func242 fun X w0=>?_
 repeat'(first|(refine spl ?_ ?_<;>(intro hb;refine ne ?_))|(refine zl hR ?_;clear hR)|refine s1 ?_|exact True.intro|((with_reducible refine zO ?_);refine zgC 3 90 3 1 ?_;refine frx (ι:=List Int×Nat) (l.length) (fun k x=>St.ofA [(0,Zs l),(3,.c (.o 90)),(4,gI k)] [] [(90,x.2,3,1,x.1.map Z3)]) (fun k x=>(qg l).take k=x.1∧x.1.length=k) ([],90) ?_ (fun k x hJ hk R hR=>?_))|refine fnx ((x.1++[l[k].peer],17)) ?_ ?_|refine fnx ((x.1++[l[k].peer],18)) ?_ ?_|refine fnx ((x.1++[l[k].peer],19)) ?_ ?_|(refine s2 ?_;try with_reducible intro R hR)|fail)
 all_goals(refine gz ?_;grind[qJ,Z3])
theorem zbK (p b l:Int):zu Tryz.prog 316 [gI p,gI b,gI l] (Yb p b l [] false 0):=by
 refine enx [.cell 6 43] Tryz.func316 fun X w0=>?_
 repeat'(first|(refine spl ?_ ?_<;>(intro hb;refine ne ?_))|(refine zl hR ?_;clear hR)|refine s1 ?_|exact True.intro|fail|(refine s2 ?_;try with_reducible intro R hR)|fail)
theorem zec (p b l:Int):zu Tryz.prog 271 [gI p,gI b,gI l] (Yb p b l [] false 0):=by
 refine enx [.cell 6 43] Tryz.func271 fun X w0=>?_
 repeat'(first|(refine spl ?_ ?_<;>(intro hb;refine ne ?_))|(refine zl hR ?_;clear hR)|refine s1 ?_|exact True.intro|fail|(refine s2 ?_;try with_reducible intro R hR)|fail)
def findH (p:Int):List Hf→Hf×Bool
 |[]=>(zbr,false)
 |h::l=>if h.peer=p then(h,true)else findH p l
abbrev rHB (x:Hf×Bool):V:=.tup [(true,cH x.1),(false,[.f (eB x.2)])]
theorem ql (l:List Hf) (p:Int) (hl:HOk l):zu Tryz.prog 17 [Zs l,gI p] (rHB (findH p l)):=by
 have hl1:=hl.1
 refine enx [.cell 4 43,.tmp 5] Tryz.func17 fun X w0=>?_
 repeat'(first|(refine spl ?_ ?_<;>(intro hb;refine ne ?_))|(refine zl hR ?_;clear hR)|refine s1 ?_|exact True.intro|refine cal (Jj _ _ _ _ _ _ (hl.at (by assumption))) ?_|((with_reducible refine zO ?_);refine frx (ι:=Unit) (l.length) (fun k _=>St.ofA [(0,Zs l),(1,gI p),(4,.loc 4 0),(5,gB false),(6,gI k)] [(4,43,cH zbr)] []) (fun k _=>findH p l=findH p (l.drop k)) () ?_ (fun k x hJ hk R hR=>?_))|refine fnx (()) ?_ ?_|(refine s2 ?_;try with_reducible intro R hR)|fail)
 all_goals(refine gz ?_;grind[findH,zP])
theorem zuJ (p b l:Int) (ls:List Ln) (pe:Bool) (m q:Int):zu Tryz.prog 294 [Yb p b l ls pe m,gI q] (gI (wr (p - q))):=by
 refine enx [.tmp 4] Tryz.func294 fun X w0=>?_
 repeat'(first|(refine spl ?_ ?_<;>(intro hb;refine ne ?_))|(refine zl hR ?_;clear hR)|refine s1 ?_|exact True.intro|fail|(refine s2 ?_;try with_reducible intro R hR)|fail)
def bsH (l:List Hf) (p:Int) (i j:Nat):Nat:=
 if h:i<j then(if wr ((l.getD ((i+j) / 2) zbr).peer - p)<0 then bsH l p ((i+j) / 2+1) j else bsH l p i ((i+j) / 2))else i
termination_by j - i
theorem zsE (l:List Hf) (p:Int) (i j:Nat) (h:i≤j):i≤bsH l p i j∧bsH l p i j≤j:=by
 induction hn:j - i using Nat.strongRecOn generalizing i j with
 | _ n ih=>
  rw[bsH]
  split
  ·rename_i h1
   split
   ·have:=ih (j - ((i+j) / 2+1)) (by omega) ((i+j) / 2+1) j (by omega) rfl
    omega
   ·have:=ih ((i+j) / 2 - i) (by omega) i ((i+j) / 2) (by omega) rfl
    omega
  ·omega
theorem zpg (l:List Hf) (p:Int) (i j:Nat) (h: ¬i<j):bsH l p i j=i:=by
 rw[bsH];simp[h]
theorem zyz (l:List Hf) (p:Int) (i j m:Nat) (h:i<j) (hm:(i+j) / 2=m) (hl:m<l.length) (hw:wr ((l.get ⟨m,hl⟩).peer - p)<0):bsH l p i j=bsH l p (m+1) j:=by
 subst hm
 rw[bsH]
 have e:l.getD ((i+j) / 2) zbr=l.get ⟨(i+j) / 2,hl⟩:=by simp[List.getD,hl]
 rw[dif_pos h,e,if_pos hw]
theorem zyc (l:List Hf) (p:Int) (i j m:Nat) (h:i<j) (hm:(i+j) / 2=m) (hl:m<l.length) (hw: ¬wr ((l.get ⟨m,hl⟩).peer - p)<0):bsH l p i j=bsH l p i m:=by
 subst hm
 rw[bsH]
 have e:l.getD ((i+j) / 2) zbr=l.get ⟨(i+j) / 2,hl⟩:=by simp[List.getD,hl]
 rw[dif_pos h,e,if_neg hw]
theorem zyR (a b:Nat) (h:a+b<4611686018427387904):IntKind.i64.wrap ((IntKind.u64.wrap (IntKind.i64.wrap ((a:Int)+b))).fdiv (2 ^ (min (Int.toNat 1) IntKind.u64.bits)))=(((a+b) / 2:Nat):Int):=by
 rw[IntKind.wrap_i64,IntKind.wrap_u64,IntKind.wrap_i64]
 have e:(2:Int) ^ (min (Int.toNat 1) IntKind.u64.bits)=2:=by decide
 rw[e,Int.fdiv_eq_ediv_of_nonneg _ (by decide)]
 omega
def atH (l:List Hf) (p:Int):Nat:=bsH l p 0 l.length
def isH (l:List Hf) (p:Int):Bool:=decide (atH l p<l.length)&&decide (wr ((l.getD (atH l p) zbr).peer - p)=0)
abbrev rIB (x:Int×Bool):V:=.tup [(false,[.f (eI x.1)]),(false,[.f (eB x.2)])]
theorem zrm (l:List Hf) (p:Int) (hl:HOk l):zu Tryz.prog 293 [Zs l,gI p,gF 294] (rIB (atH l p,isH l p)):=by
 have hl1:=hl.1
 have hbs:=zsE l p 0 l.length (Nat.zero_le _)
 refine enx [.tmp 6,.tmp 7] Tryz.func293 fun X w0=>?_
 repeat'(first|(refine spl ?_ ?_<;>(intro hb;refine ne ?_))|(refine zl hR ?_;clear hR)|refine s1 ?_|exact True.intro|(refine zcK (ι:=Nat×Nat) (fun x=>St.ofA [(0,Zs l),(1,gI p),(2,gF 294),(8,gI l.length),(9,gI x.1),(10,gI x.2)] [] []) (fun x=>atH l p=bsH l p x.1 x.2∧x.1≤x.2∧x.2≤l.length) (fun x=>x.2 - x.1) (0,l.length) ?_ (by(refine zp rfl ?_ ?_ ?_<;>simp);done) (fun i hqi RL hRL=>?_);rotate_left;have hm:=zyR i.1 i.2 (by omega);obtain⟨m,hmd⟩: ∃m,(i.1+i.2) / 2=m:=⟨_,rfl⟩;rw[hmd]at hm;simp only[push_cast,seval]at hm;rotate_right)|refine cav (zuJ _ _ _ _ _ _ _) ?_|(have hlt:m<l.length:=(by omega);simp only[push_cast,seval, *])|(refine ztu (by assumption) ((m+1,i.2)) ?_ ?_ ?_;(focus((refine zp rfl ?_ ?_ ?_<;>simp);all_goals(rw[IntKind.wrap_i64];omega))))|(refine ztu (by assumption) ((i.1,m)) ?_ ?_ ?_;(focus((refine zp rfl ?_ ?_ ?_<;>simp);all_goals(rw[IntKind.wrap_i64];omega))))|(refine s2 ?_;try with_reducible intro R hR)|fail)
 (all_goals(repeat(first|clear hR|clear hRA|clear hRn|clear hRr|clear hRe|clear hRL)))
 all_goals grind[zpg,zyz,zyc,atH,isH]
abbrev eF (f:FuncId):F:=.s (.func (.func f) #[] #[])
theorem zt7 (e:Ex):zu Tryz.prog 291 [gX e] (gI e.val):=by
 refine enx [.tmp 2] Tryz.func291 fun X w0=>?_
 repeat'(first|(refine spl ?_ ?_<;>(intro hb;refine ne ?_))|(refine zl hR ?_;clear hR)|refine s1 ?_|exact True.intro|fail|(refine s2 ?_;try with_reducible intro R hR)|fail)
theorem zkJ (e:Ex):zu Tryz.prog 292 [gX e] (gI (wr (0 - e.val))):=by
 refine enx [.tmp 2] Tryz.func292 fun X w0=>?_
 repeat'(first|(refine spl ?_ ?_<;>(intro hb;refine ne ?_))|(refine zl hR ?_;clear hR)|refine s1 ?_|exact True.intro|fail|(refine s2 ?_;try with_reducible intro R hR)|fail)
theorem zkF (f:FuncId):zu Tryz.prog 290 [gF f] (.clo 338 [] [.rd [eF f]]):=by
 refine enx [.tmp 2] Tryz.func290 fun X w0=>?_
 repeat'(first|(refine spl ?_ ?_<;>(intro hb;refine ne ?_))|(refine zl hR ?_;clear hR)|refine s1 ?_|exact True.intro|(refine fzx 1 ?_;refine jE ?_)|(refine s2 ?_;try with_reducible intro R hR)|fail)
def orZ:List Int→Int
 |[]=>0
 |x::l=>if x=0 then orZ l else x
theorem zCr (l:List Int) (hl:l.length≤1048576):zu Tryz.prog 339 [gZ l] (gI (orZ l)):=by
 refine enx [.tmp 2] Tryz.func339 fun X w0=>?_
 repeat'(first|(refine spl ?_ ?_<;>(intro hb;refine ne ?_))|(refine zl hR ?_;clear hR)|refine s1 ?_|exact True.intro|((with_reducible refine zW ?_);refine rgx (ι:=Unit) (l.length) (fun k _=>St.ofA [(3,gI 0),(6,gZ l),(7,gI l.length),(8,gI k)] [] []) (fun k _=>orZ l=orZ (l.drop k)) () ?_ (fun k x hJ hk=>?_) (fun x hJ=>?_))|refine rnx (()) ?_|(refine s2 ?_;try with_reducible intro R hR)|fail)
 all_goals(refine gz ?_;grind[orZ,zP])
theorem zyt (a b c:Int):zu Tryz.prog 339 [.c (.f (.l 1 [[eI a],[eI b],[eI c]]))] (gI (orZ [a,b,c])):=zCr [a,b,c] (by simp)
def I62 (x:Int):Prop:=-4611686018427387904≤x∧x≤4611686018427387904
theorem zuY {x y a b c d:Int}:orZ [zb7 x y,zb7 a b,zb7 c d]<0↔x<y∨(x=y∧(a<b∨(a=b∧c<d))):=by grind[orZ,zb7]
def FX (e:Ex):Prop:=I62 e.val∧(e.has=false→e=noEx)
theorem zwP {a b:Ex} (hfa:FX a) (hfb:FX b):Zc 1 a b=if !a.has||(b.has&&decide (orZ [zb7 b.val a.val,zb7 b.age a.age,zb7 b.org a.org]<0))then b else a:=by
 have e1:=yj (x:=1*a.val) (by have:=hfa.1;unfold I62 at this;omega)
 have e2:=yj (x:=1*b.val) (by have:=hfb.1;unfold I62 at this;omega)
 have h1:=hfa.2
 have h2:=hfb.2
 simp only[zuY]
 grind[Zc,zhy]
theorem zvE {a b:Ex} (hfa:FX a) (hfb:FX b):Zc (-1) a b=if !a.has||(b.has&&decide (orZ [zb7 (wr (0 - b.val)) (wr (0 - a.val)),zb7 b.age a.age,zb7 b.org a.org]<0))then b else a:=by
 have e1:=yj (x:=-1*a.val) (by have:=hfa.1;unfold I62 at this;omega)
 have e2:=yj (x:=-1*b.val) (by have:=hfb.1;unfold I62 at this;omega)
 have e3:=yj (x:=0 - a.val) (by have:=hfa.1;unfold I62 at this;omega)
 have e4:=yj (x:=0 - b.val) (by have:=hfb.1;unfold I62 at this;omega)
 have h1:=hfa.2
 have h2:=hfb.2
 simp only[zuY]
 grind[Zc,zhy]
theorem zra (a b:Ex) (hfa:FX a) (hfb:FX b):zu Tryz.prog 338 [gX a,gX b,.rd [eF 291]] (gX (Zc 1 a b)):=by
 rw[zwP hfa hfb]
 clear hfa hfb
 refine enx [.cell 5 68] Tryz.func338 fun X w0=>?_
 repeat'(first|(refine spl ?_ ?_<;>(intro hb;refine ne ?_))|(refine zl hR ?_;clear hR)|refine s1 ?_|exact True.intro|refine rtl 24 [] ?_|refine cad (zt7 ⟨_,_,_,_⟩) ?_|refine cad (zoB _ _) ?_|refine cad (zyC _ _) ?_|refine lat ?_|(refine zl8 rfl hT znB (by rfl) (by rfl) (by rfl) (by rfl) (by rfl) (by decide) (by decide) ?_;simp only[push_cast,seval, *])|refine cal (zyt _ _ _) ?_|(refine s2 ?_;try with_reducible intro R hR)|fail)
 (all_goals(repeat(first|clear hR|clear hRA|clear hRn|clear hRr|clear hRe|clear hRL)))
 all_goals grind
theorem zqg (a b:Ex) (hfa:FX a) (hfb:FX b):zu Tryz.prog 338 [gX a,gX b,.rd [eF 292]] (gX (Zc (-1) a b)):=by
 rw[zvE hfa hfb]
 clear hfa hfb
 refine enx [.cell 5 68] Tryz.func338 fun X w0=>?_
 repeat'(first|(refine spl ?_ ?_<;>(intro hb;refine ne ?_))|(refine zl hR ?_;clear hR)|refine s1 ?_|exact True.intro|refine rtl 24 [] ?_|refine cad (zkJ ⟨_,_,_,_⟩) ?_|refine cad (zoB _ _) ?_|refine cad (zyC _ _) ?_|refine lat ?_|(refine zl8 rfl hT znB (by rfl) (by rfl) (by rfl) (by rfl) (by rfl) (by decide) (by decide) ?_;simp only[push_cast,seval, *])|refine cal (zyt _ _ _) ?_|(refine s2 ?_;try with_reducible intro R hR)|fail)
 (all_goals(repeat(first|clear hR|clear hRA|clear hRn|clear hRr|clear hRe|clear hRL)))
 all_goals grind
theorem zbN (a b:Ex) (hfa:FX a) (hfb:FX b):zu Tryz.prog 219 [gX a,gX b] (gX (Zc 1 a b)):=by
 refine enx [.cell 4 68] Tryz.func219 fun X w0=>?_
 repeat'(first|(refine spl ?_ ?_<;>(intro hb;refine ne ?_))|(refine zl hR ?_;clear hR)|refine s1 ?_|exact True.intro|refine rtl 3 [] ?_|refine cad (zkF _) ?_|refine lat ?_|refine cav (zra a b hfa hfb) ?_|(refine s2 ?_;try with_reducible intro R hR)|fail)
theorem YU (a b:Ex) (hfa:FX a) (hfb:FX b):zu Tryz.prog 222 [gX a,gX b] (gX (Zc (-1) a b)):=by
 refine enx [.cell 4 68] Tryz.func222 fun X w0=>?_
 repeat'(first|(refine spl ?_ ?_<;>(intro hb;refine ne ?_))|(refine zl hR ?_;clear hR)|refine s1 ?_|exact True.intro|refine rtl 3 [] ?_|refine cad (zkF _) ?_|refine lat ?_|refine cav (zqg a b hfa hfb) ?_|(refine s2 ?_;try with_reducible intro R hR)|fail)
theorem zg3 {id:Int} {e:Ex} (h:FX e):FX (jR id e):=by
 unfold jR;split
 ·simp[FX,I62]
 ·exact h
theorem zyD {e:Ex} (h:FX e):FX (JY e):=by
 unfold JY;split
 ·simp[FX,I62]
 ·rename_i hn
  refine⟨h.1,fun hh=>?_⟩
  simp at hn hh
  rw[hh]at hn
  cases hn.1
theorem zpF {id n:Int} (h:I62 n):FX (zao id n):=⟨h,fun hh=>by cases hh⟩
theorem zxO (id:Int) (e:Ex):JY (jR id e)=jR id (JY e):=by grind[jR,JY]
theorem zq9 (id:Int) (a b c d:Ex) (hfa:FX a) (hfb:FX b) (hfc:FX c) (hfd:FX d):zu Tryz.prog 330 [gI id,gX a,gX b,gX c,gX d] (rXX (zeb id a b c d)):=by
 refine enx [.cell 10 68,.cell 11 68] Tryz.func330 fun X w0=>?_
 repeat'(first|(refine spl ?_ ?_<;>(intro hb;refine ne ?_))|(refine zl hR ?_;clear hR)|refine s1 ?_|exact True.intro|refine rdb [] ?_|refine cad (Zy id c.has c.val c.org c.age) ?_|refine cad (Zy id d.has d.val d.org d.age) ?_|refine cad (zbN a (jR id c) hfa (zg3 hfc)) ?_|refine cad (YU b (jR id d) hfb (zg3 hfd)) ?_|(refine s2 ?_;try with_reducible intro R hR)|fail)
 all_goals(refine gz ?_;grind[zeb])
theorem zr4 (id n:Int) (a b:Ex) (hfa:FX a) (hfb:FX b) (hfn:I62 n):zu Tryz.prog 149 [gI id,gI n,gX a,gX b] (rXX (zlW id n a b)):=by
 refine enx [.cell 8 68,.cell 9 68] Tryz.func149 fun X w0=>?_
 repeat'(first|(refine spl ?_ ?_<;>(intro hb;refine ne ?_))|(refine zl hR ?_;clear hR)|refine s1 ?_|exact True.intro|refine rdb [] ?_|refine cad (Zy id a.has a.val a.org a.age) ?_|refine cad (Zy id b.has b.val b.org b.age) ?_|refine cad (zkV _ _) ?_|refine cad (zbN (jR id a) (zao id n) (zg3 hfa) (zpF hfn)) ?_|refine cad (YU (jR id b) (zao id n) (zg3 hfb) (zpF hfn)) ?_|(refine s2 ?_;try with_reducible intro R hR)|fail)
 all_goals(refine gz ?_;grind[zlW])
theorem zqy (id:Int) (has:Bool) (n:Int) (a b:Ex) (hfa:FX a) (hfb:FX b) (hfn:I62 n):zu Tryz.prog 259 [gI id,gB has,gI n,gX a,gX b] (rXX (zbZ id has n a b)):=by
 refine enx [.cell 10 68,.cell 11 68] Tryz.func259 fun X w0=>?_
 repeat'(first|(refine spl ?_ ?_<;>(intro hb;refine ne ?_))|(refine zl hR ?_;clear hR)|refine s1 ?_|exact True.intro|refine rdb [] ?_|refine rex [] ?_|refine cad (Zy id a.has a.val a.org a.age) ?_|refine cad (Zy id b.has b.val b.org b.age) ?_|refine cad (zfH (jR id a).has (jR id a).val (jR id a).org (jR id a).age) ?_|refine cad (zfH (jR id b).has (jR id b).val (jR id b).org (jR id b).age) ?_|refine cad (zkV _ _) ?_|refine cad (zbN (JY (jR id a)) (zao id n) (zyD (zg3 hfa)) (zpF hfn)) ?_|refine cad (YU (JY (jR id b)) (zao id n) (zyD (zg3 hfb)) (zpF hfn)) ?_|(refine s2 ?_;try with_reducible intro R hR)|fail)
 (all_goals(repeat(first|clear hR|clear hRA|clear hRn|clear hRr|clear hRe|clear hRL)))
 all_goals grind[zbZ,zxO]
end Go.Proofs.YtbcbnfiedgnfpaaGreat
