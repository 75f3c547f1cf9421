import Derived.Test.YtbcbnfiedgnfpaaGreatZ13
import Derived.Test.YtbcbnfiedgnfpaaGreatZ08
import Derived.Test.YtbcbnfiedgnfpaaGreatZ18
import Derived.Test.YtbcbnfiedgnfpaaGreatZ20
set_option linter.unusedSimpArgs false
set_option linter.unusedVariables false
set_option maxRecDepth 100000
set_option maxHeartbeats 2000000
namespace Go.Proofs.YtbcbnfiedgnfpaaGreat
open Go.Dl
attribute [local irreducible] DW yE zY zA zu zky
attribute [local push_cast] zZ qF qC zN zM zD zE qH qE qz Go.Dl.qY yT qy List.mem_cons List.not_mem_nil or_false forall_eq false_implies implies_true
theorem JE (l:List Hf) (hl:HOk l):zA Tryz.prog 124 [Zs l] [] [] (.c (.o 0)) [] [(0,43,6,l.map jI)]:=by
 have hl1:=hl.1
 refine emx [.tmp 2] Tryz.func124 fun XX X G w0=>?_
 repeat'(first|(refine spl ?_ ?_<;>(intro hb;refine ne ?_))|(refine zl hR ?_;clear hR)|refine s1 ?_|exact True.intro|refine cal (QX _ _ _ _ _ _ (hl.at hk)) ?_|((with_reducible refine zW ?_);refine zgC 3 90 43 6 ?_;refine rgx (ι:=List Hf×Nat) (l.length) (fun k x=>St.ofA [(3,.c (.o 90)),(6,Zs l),(7,gI l.length),(8,gI k)] [] [(90,x.2,43,6,x.1.map jI)]) (fun k x=>l.take k=x.1∧x.1.length=k) ([],90) ?_ (fun k x hJ hk=>?_) (fun x hJ=>?_))|refine rnx ((x.1++[l[k]],16)) ?_|(refine s2 ?_;try with_reducible intro R hR)|fail)
 all_goals first
  |(have e:x.1=l:=(by grind);subst e;exact fmx [(0,90)])
  |grind[qJ,jI]
theorem zs0 (l:List Ln) (hl:l.length≤1048576):zA Tryz.prog 267 [gNs l] [] [] (.c (.o 0)) [] [(0,105,4,l.map ZY)]:=by
 refine emx [.tmp 2] Tryz.func267 fun XX X G w0=>?_
 repeat'(first|(refine spl ?_ ?_<;>(intro hb;refine ne ?_))|(refine zl hR ?_;clear hR)|refine s1 ?_|exact True.intro|(refine jU (by rfl) hT zsf (by rfl) (by rfl) (fun c hc=>?_);cases c<;>try simp only[push_cast,seval, *])|(refine j7 (by rfl) hT zsf (by rfl) (by rfl) (by rfl) ?_;simp only[push_cast,seval, *])|(refine Jo 2 9 105 4 (by rfl) (by rfl) ?_)|(refine s2 ?_;try with_reducible intro R hR)|fail)
 ·exact fmx [(0,7)]
 ·exact fmx [(0,9)]
theorem zhd (p b l:Int) (ls:List Ln) (pe:Bool) (m:Int) (hl:ls.length≤1048576):zA Tryz.prog 191 [Yb p b l ls pe m] [] [] (.agg [.f (eI p),.f (eI b),.f (eI l),.o 0,.f (eB pe),.f (eI m)]) [] [(0,105,4,ls.map ZY)]:=by
 refine emx [.cell 2 43] Tryz.func191 fun XX X G w0=>?_
 repeat'(first|(refine spl ?_ ?_<;>(intro hb;refine ne ?_))|(refine zl hR ?_;clear hR)|refine s1 ?_|exact True.intro|refine cM [] [(0,7)] (zs0 _ hl) ?_|(refine s2 ?_;try with_reducible intro R hR)|fail)
 exact fmx [(0,7)]
theorem zlP (l:List Hf) (p:Int) (hl:HOk l):zu Tryz.prog 232 [Zs l,gI p] (rLB (if isH l p then(l.take (atH l p)++l.drop (atH l p+1),true)else(l,false))):=by
 have hl1:=hl.1
 cases hi:isH l p
 ·refine enx [.tmp 4,.tmp 5] Tryz.func232 fun X w0=>?_
  repeat'(first|(refine spl ?_ ?_<;>(intro hb;refine ne ?_))|(refine zl hR ?_;clear hR)|refine s1 ?_|exact True.intro|refine cM [] [(0,10)] (JE _ hl) ?_|(refine yz rfl rfl (za6 _ _ _ hl hi) (by rfl) (by simp;done) ?_;simp only[push_cast,seval, *])|(refine s2 ?_;try with_reducible intro R hR)|fail)
  all_goals(refine gz ?_;grind[])
 ·have hlt:=ziW hi
  obtain⟨k,hk⟩: ∃k,atH l p=k:=⟨_,rfl⟩
  rw[hk]at hlt
  have e1:=yj (x:=(k:Int)+1) (by omega)
  refine enx [.tmp 4,.tmp 5] Tryz.func232 fun X w0=>?_
  repeat'(first|(refine spl ?_ ?_<;>(intro hb;refine ne ?_))|(refine zl hR ?_;clear hR)|refine s1 ?_|exact True.intro|refine cM [] [(0,10)] (JE _ hl) ?_|(refine yz rfl rfl (za6 _ _ _ hl hi) (by rfl) (by simp;done) ?_;simp only[push_cast,seval, *])|refine cM [] [(0,10)] (zzT (l.map jI) k _ rfl (by simpa using hlt) (by simp;omega)) ?_|(refine s2 ?_;try with_reducible intro R hR)|fail)
  all_goals(refine gz ?_;grind[])
theorem zn4 (l:List Hf) (p b lf:Int) (ls:List Ln) (pe:Bool) (m:Int) (hl:HOk l) (hn:ls.length≤1048576):zu Tryz.prog 263 [Zs l,Yb p b lf ls pe m] (Zs (if isH l p then l.set (atH l p) ⟨p,b,lf,ls,pe,m⟩else l.take (atH l p)++[⟨p,b,lf,ls,pe,m⟩]++l.drop (atH l p))):=by
 have hl1:=hl.1
 have hle:atH l p≤l.length:=(zsE l p 0 l.length (Nat.zero_le _)).2
 obtain⟨k,hk⟩: ∃k,atH l p=k:=⟨_,rfl⟩
 rw[hk]at hle
 cases hi:isH l p
 ·refine enx [.tmp 4] Tryz.func263 fun X w0=>?_
  repeat'(first|(refine spl ?_ ?_<;>(intro hb;refine ne ?_))|(refine zl hR ?_;clear hR)|refine s1 ?_|exact True.intro|(refine jk true hT (by decide) ?_;simp only[push_cast,seval, *])|(with_reducible refine zL fun R hR=>?_;refine jk true hT (by decide) ?_;simp only[push_cast,seval, *])|refine cM [] [(0,9)] (JE _ hl) ?_|(refine yz rfl rfl (za6 _ _ _ hl hi) (by rfl) (by simp;done) ?_;simp only[push_cast,seval, *])|refine cal (QX _ _ _ _ _ _ hn) ?_|refine cM [] [(0,9),(1,28)] (zzH (l.map jI) (jI ⟨p,b,lf,ls,pe,m⟩) k (by simpa using hle) (by simp;omega)) ?_|(refine s2 ?_;try with_reducible intro R hR)|fail)
  all_goals(refine gz ?_;grind[jI,List.map_set])
 ·have hlt:=ziW hi
  rw[hk]at hlt
  refine enx [.tmp 4] Tryz.func263 fun X w0=>?_
  repeat'(first|(refine spl ?_ ?_<;>(intro hb;refine ne ?_))|(refine zl hR ?_;clear hR)|refine s1 ?_|exact True.intro|(refine jk true hT (by decide) ?_;simp only[push_cast,seval, *])|(with_reducible refine zL fun R hR=>?_;refine jk true hT (by decide) ?_;simp only[push_cast,seval, *])|refine cM [] [(0,9)] (JE _ hl) ?_|(refine yz rfl rfl (za6 _ _ _ hl hi) (by rfl) (by simp;done) ?_;simp only[push_cast,seval, *])|refine cal (QX _ _ _ _ _ _ hn) ?_|(refine s2 ?_;try with_reducible intro R hR)|fail)
  all_goals(refine gz ?_;grind[jI,List.map_set])
theorem zmu {nm:ByteArray} {l:List Ln} {b:Bool} (hb:qY nm l=b) (p b0 lf:Int) (pe:Bool) (m:Int) (hl:l.length≤1048576):zu Tryz.prog 225 [Yb p b0 lf l pe m,gS nm] (rIB ((ltL nm l:Nat),b)):=by
 have h:=zmB p b0 lf l pe m nm hl
 rw[zeK,hb]at h
 simpa using h
theorem zy6 {nm:ByteArray} {l:List Ln} (h:qY nm l=true): ∃hl:ltL nm l<l.length,(l[ltL nm l].nm.toList==nm.toList)=true:=by
 rcases Nat.lt_or_ge (ltL nm l) l.length with h1|h1
 ·exact⟨h1,by rw[←zjI h1 rfl];exact h⟩
 ·rw[zez (by omega) rfl]at h;cases h
theorem zof (nm:ByteArray): ∀l:List Ln,ltL nm l≤l.length
 |[]=>Nat.le_refl _
 |x::l=>by
  have:=zof nm l
  rw[yw]
  split
  ·simp;omega
  ·exact Nat.zero_le _
theorem zsu {l:List Ln} {nm:ByteArray} {v w f:Int} {k:Nat} (hi:qY nm l=true) (hk:ltL nm l=k) (h:k<l.length) (hn:(l[k].nm.toList==nm.toList)=true) (hz:ZK (v,w,f)=false):(l.map ZY).set k [eS l[k].nm,eI v,eI w,eI f]=(jB l nm (v,w,f)).map ZY:=by
 have e:=zf3 hn
 simp[jB,hi,hz,hk,List.set_eq_take_append_cons_drop,h,ZY,e]
theorem zag (p b lf:Int) (l:List Ln) (pe:Bool) (m:Int) (nm:ByteArray) (v w f:Int) (hl:l.length≤1048576):zu Tryz.prog 284 [Yb p b lf l pe m,gS nm,gR v w f] (Yb p b lf (jB l nm (v,w,f)) pe m):=by
 have hle:=zof nm l
 cases hi:qY nm l
 ·obtain⟨k,hk⟩: ∃k,ltL nm l=k:=⟨_,rfl⟩
  rw[hk]at hle
  refine enx [.cell 6 43] Tryz.func284 fun X w0=>?_
  repeat'(first|(refine spl ?_ ?_<;>(intro hb;refine ne ?_))|(refine zl hR ?_;clear hR)|refine s1 ?_|exact True.intro|(refine jk true hT (by decide) ?_;simp only[push_cast,seval, *])|(with_reducible refine zL fun R hR=>?_;refine jk true hT (by decide) ?_;simp only[push_cast,seval, *])|refine cM [] [(0,10)] (zhd p b lf l pe m hl) ?_|(refine yz rfl rfl (zmu hi p b lf pe m hl) (by rfl) (by simp;done) ?_;simp only[push_cast,seval, *])|refine cM [] [(0,10),(1,55)] (zz1 (l.map ZY) (ZY ⟨nm,v,w,f⟩) k (by simpa using hle) (by simp;omega)) ?_|(refine s2 ?_;try with_reducible intro R hR)|fail)
  (all_goals(repeat(first|clear hR|clear hRA|clear hRn|clear hRr|clear hRe|clear hRL)))
  all_goals grind[jB,ZK,ZY,zf3,List.map_set,List.take_append_drop,List.set_eq_take_append_cons_drop]
 ·obtain⟨hlt,hnm⟩:=zy6 hi
  obtain⟨k,hk⟩: ∃k,ltL nm l=k:=⟨_,rfl⟩
  simp only[hk]at hlt hnm
  have e1:=yj (x:=(k:Int)+1) (by omega)
  refine enx [.cell 6 43] Tryz.func284 fun X w0=>?_
  repeat'(first|(refine spl ?_ ?_<;>(intro hb;refine ne ?_))|(refine zl hR ?_;clear hR)|refine s1 ?_|exact True.intro|refine cM [] [(0,10)] (zhd p b lf l pe m hl) ?_|(refine yz rfl rfl (zmu hi p b lf pe m hl) (by rfl) (by simp;done) ?_;simp only[push_cast,seval, *])|refine cM [] [(0,10)] (zy9 (l.map ZY) k _ rfl (by simpa using hlt) (by simp;omega)) ?_|(refine s2 ?_;try with_reducible intro R hR)|fail)
  (all_goals(repeat(first|clear hR|clear hRA|clear hRn|clear hRr|clear hRe|clear hRL)))
  all_goals first|(refine zsu hi hk hlt hnm ?_;simpa[ZK]using hb)|grind[jB,ZK,ZY,List.take_append_drop]
def I64 (p:Int):Prop:=-9223372036854775808≤p∧p≤9223372036854775807
theorem jc (l:List Hf) (p:Int) (hl:HOk l) (hs:SrtH l) (hr:RngH l) (hp:I64 p):zu Tryz.prog 152 [Zs l,gI p] (rHB (findH p l)):=by
 have h:=zby l p hl
 rwa[zdD hs hr hp]at h
theorem zsr {l:List Hf} {p:Int} (hs:SrtH l) (hr:RngH l) (hp:I64 p) (h:hasP p l=true):atH l p=Yr p l:=by
 rw[←zjC hs hr hp]at h
 obtain⟨hl,he⟩:=zmk hr hp h
 have:=hr _ (List.getElem_mem hl)
 exact zsC hs hr (by omega)
theorem zgs (l:List Hf) (p:Int) (hl:HOk l) (hs:SrtH l) (hr:RngH l) (hp:I64 p):zu Tryz.prog 232 [Zs l,gI p] (rLB (ZM p false l)):=by
 have h:=zlP l p hl
 rw[zjC hs hr hp]at h
 rw[zmL hs]
 cases hb:hasP p l
 ·rw[hb]at h;exact h
 ·rw[hb,zsr hs hr hp hb]at h;exact h
theorem zvW {l:List Hf} {k:Nat} {x:Hf} (h:k<l.length):l.set k x=l.take k++[x]++l.drop (k+1):=by
 rw[List.set_eq_take_append_cons_drop,if_pos h];simp
theorem zzS {l:List Hf} {p:Int} (hs:SrtH l) (hr:RngH l) (hp:I64 p) (h:hasP p l=true):Yr p l<l.length:=by
 rw[←zsr hs hr hp h]
 exact ziW (by rw[zjC hs hr hp];exact h)
theorem zp8 (l:List Hf) (p b lf:Int) (ls:List Ln) (pe:Bool) (m:Int) (hl:HOk l) (hn:ls.length≤1048576) (hs:SrtH l) (hr:RngH l) (hp:0≤p∧p<16):zu Tryz.prog 263 [Zs l,Yb p b lf ls pe m] (Zs (qu l ⟨p,b,lf,ls,pe,m⟩)):=by
 have hp':I64 p:=by unfold I64;omega
 have h:=zn4 l p b lf ls pe m hl hn
 rw[zjC hs hr hp']at h
 rw[zz3 hs]
 rw[zsC hs hr (by omega)]at h
 cases hb:hasP p l
 ·rw[hb]at h;simpa[hb]using h
 ·rw[hb,if_pos rfl,zvW (zzS hs hr hp' hb)]at h
  simpa[hb]using h
theorem ziI (l:List Hf) (nm:ByteArray) (hl:HOk l):zu Tryz.prog 215 [Zs l,gS nm] (Zs (Qy l nm)):=by
 have hl1:=hl.1
 refine enx [.tmp 4] Tryz.func215 fun X w0=>?_
 repeat'(first|(refine spl ?_ ?_<;>(intro hb;refine ne ?_))|(refine zl hR ?_;clear hR)|refine s1 ?_|exact True.intro|refine cal (zag _ _ _ _ _ _ _ _ _ _ (hl.at (by assumption))) ?_|((with_reducible refine zW ?_);refine zgC 5 90 43 6 ?_;refine rgx (ι:=List Hf×Nat) (l.length) (fun k x=>St.ofA [(1,gS nm),(5,.c (.o 90)),(8,Zs l),(9,gI l.length),(10,gI k)] [] [(90,x.2,43,6,x.1.map jI)]) (fun k x=>(Qy l nm).take k=x.1∧x.1.length=k) ([],90) ?_ (fun k x hJ hk=>?_) (fun x hJ=>?_))|refine rnx ((x.1++[zaL l[k] nm noG],20)) ?_|(refine s2 ?_;try with_reducible intro R hR)|fail)
 (all_goals(repeat(first|clear hR|clear hRA|clear hRn|clear hRr|clear hRe|clear hRL)))
 all_goals first|omega|grind[zsc,List.take_of_length_le,zpc]
def eqG (x y:jQ):Bool:=x.1==y.1&&(x.2.1==y.2.1&&x.2.2==y.2.2)
def zt6 (me:Int) (h:Hf) (nm:ByteArray) (g:jQ):Hf×Bool:=
 let o:=zjw h.lines nm
 if Qd g.1 g.2.1 g.2.2 me h.peer&&newR g.1 g.2.1 o.1 o.2.1 then(zaL h nm g,eqG (zjw (jB h.lines nm g) nm) g)else(h,false)
theorem zkf (me p b lf:Int) (l:List Ln) (pe:Bool) (m:Int) (nm:ByteArray) (v w f:Int) (hl:l.length≤1048576):zu Tryz.prog 277 [gI me,Yb p b lf l pe m,gS nm,gR v w f] (rHB (zt6 me ⟨p,b,lf,l,pe,m⟩ nm (v,w,f))):=by
 refine enx [.cell 8 43,.tmp 9] Tryz.func277 fun X w0=>?_
 repeat'(first|(refine spl ?_ ?_<;>(intro hb;refine ne ?_))|(refine zl hR ?_;clear hR)|refine s1 ?_|exact True.intro|refine rdb [] ?_|refine rex [] ?_|refine cad (Yi _ _ _ _ _) ?_|refine cad (zdc _ _ _ _ _ _ _ hl) ?_|refine cad (zdc p b lf (jB l nm (v,w,f)) pe m nm (za7 nm (v,w,f) hl)) ?_|refine cad (zmR _ _ _ _ _ _) ?_|refine cal (QX _ _ _ _ _ _ hl) ?_|refine cal (zag _ _ _ _ _ _ _ _ _ _ hl) ?_|(refine s2 ?_;try with_reducible intro R hR)|fail)
 (all_goals(repeat(first|clear hR|clear hRA|clear hRn|clear hRr|clear hRe|clear hRL)))
 all_goals grind[zt6,zaL,eqG]
end Go.Proofs.YtbcbnfiedgnfpaaGreat
