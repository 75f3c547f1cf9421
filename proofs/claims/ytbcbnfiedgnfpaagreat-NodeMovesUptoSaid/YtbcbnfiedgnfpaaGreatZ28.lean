import Derived.Test.YtbcbnfiedgnfpaaGreatZ25
set_option linter.unusedSimpArgs false
set_option linter.unusedVariables false
set_option maxRecDepth 100000
set_option maxHeartbeats 2000000
namespace Go.Proofs.YtbcbnfiedgnfpaaGreat
open Go.Dl
attribute [local irreducible] DW yE zY zA zu zky
attribute [local push_cast] zZ qF qC zN zM zD zE qH qE qz Go.Dl.qY yT qy List.mem_cons List.not_mem_nil or_false forall_eq false_implies implies_true
theorem zy.nok {n:zQ} (h:zy n):NOk n:=by
 have hw:=(zU.1 h.want).2.1
 have hs:=qt h.seen
 have hh:=jW h.hv
 have hc:=(zH.1 h.ch).2.2.1
 refine⟨by omega,by omega,by omega,fun x hx=>?_,by omega,zsM h.ch⟩
 obtain⟨h1,h2,h3,h4⟩:=z0.1 ((q8.1 h.hv).2.1 x hx)
 refine⟨by omega,fun y hy=>?_⟩
 have:=zib (zhV.1 (h4 y hy)).1;omega
theorem Zt {p:Int} (h:0≤p∧p<16):I64 p:=by unfold I64;omega
theorem JS (p b lf:Int) (l:List Ln) (pe:Bool) (m:Int) (nm:ByteArray) (hl:l.length≤1048576) (hs:Y8 l):zu Tryz.prog 153 [Yb p b lf l pe m,gS nm] (gG (findL nm l)):=by
 have:=zdc p b lf l pe m nm hl
 rw[znJ hs]at this;exact this
theorem jq {n:zQ} (h:zy n) (q:Int):(findH q n.hv).1.lines.length≤1048576:=by
 cases hq:hasP q n.hv
 ·rw[zfy hq];simp
 ·have:=(z0.1 (h.find hq).1).2.1;omega
theorem zz5 {n:zQ} {s:Tt} (h:zy n) (hs:s∈n.ch) (ha:s.c.al=true) (hf:QQ s.c.kd=true) (p:Int):rstN n s.c.nm p=Yt n.id s.inp n.hv s.c.nm p:=by
 have:findT s.c.nm n.ch=(s,true):=zdq (zH.1 h.ch).2.2.2.1 hs (by simp[Jr,ha])
 unfold rstN;rw[this];simp[hf]
theorem zy.inp_wr {n:zQ} {s:Tt} (h:zy n) (hs:s∈n.ch):wr s.inp=s.inp:=by
 have:=(yM.1 ((zH.1 h.ch).2.2.2.2.2 s hs)).2.2.1
 simp only[flowB,Bool.and_eq_true,decide_eq_true_eq]at this
 exact zlU (by omega)
theorem YG {n:zQ} {s:Tt} (h:zy n) (hs:s∈n.ch) (hh:Hf) (p:Int) (r:Bool):
    (s.c.al=false∧ZB n hh p r s=⟨s.c,0,0,0,false,0,noEx,noEx⟩)∨(s.c.al=true∧s.c.kd=4∧ZB n hh p r s=⟨s.c,0,0,0,false,0,s.mn,s.mx⟩)∨
    (s.c.al=true∧¬s.c.kd=4∧QQ s.c.kd=true∧rstN n s.c.nm p=Yt n.id s.inp n.hv s.c.nm p∧
      ((r=false∧ZB n hh p r s=⟨s.c,(findL s.c.nm hh.lines).1,(findL s.c.nm hh.lines).2.1,(findL s.c.nm hh.lines).2.2,false,0,noEx,noEx⟩)∨
       (r=true∧(Yt n.id s.inp n.hv s.c.nm p).2=0∧ZB n hh p r s=⟨s.c,(findL s.c.nm hh.lines).1,(findL s.c.nm hh.lines).2.1,(findL s.c.nm hh.lines).2.2,true,(Yt n.id s.inp n.hv s.c.nm p).1,noEx,noEx⟩)∨
       (r=true∧¬(Yt n.id s.inp n.hv s.c.nm p).2=0∧ZB n hh p r s=⟨s.c,(findL s.c.nm hh.lines).1,(findL s.c.nm hh.lines).2.1,(findL s.c.nm hh.lines).2.2,false,0,noEx,noEx⟩))):=by
  have hk:=zeQ h.ch s hs
  cases ha:s.c.al
  · left;exact⟨rfl,by simp[ZB,ha]⟩
  · right
    by_cases h4:s.c.kd=4
    · left;refine⟨rfl,h4,?_⟩
      have h44:QQ 4=false:=rfl
      simp[ZB,ha,h4,h44]
    · right
      have hf:QQ s.c.kd=true:=by simp only[QQ,Bool.and_eq_true,decide_eq_true_eq];omega
      refine⟨rfl,h4,hf,zz5 h hs ha hf p,?_⟩
      cases r
      · left;exact⟨rfl,by simp[ZB,ha,hf]⟩
      · right
        by_cases he:(Yt n.id s.inp n.hv s.c.nm p).2=0
        · left;exact⟨rfl,he,by simp[ZB,ha,hf,he]⟩
        · right;exact⟨rfl,he,by simp[ZB,ha,hf,he]⟩
theorem zb3 {n:zQ} {p:Int} {r:Bool} {k:Nat} (h:k<n.ch.length):(qa n p r).take (k+1)=(qa n p r).take k++[ZB n (findH p n.hv).1 p r n.ch[k]]:=by
 have hk:k<(qa n p r).length:=by unfold qa;simpa using h
 rw[qJ hk];simp[qa]
theorem Z6 (n:zQ) (p:Int) (r:Bool):(qa n p r).length=n.ch.length:=by unfold qa;simp
attribute [simp] yS
theorem zl4 (n:zQ) (p:Int) (h:zy n) (hp:hasP p n.hv=true):zu Tryz.prog 80 [jv n,gI p,gB true] (.c (.f (.l 19 ((qa n p true).map yS)))):=by
 have hq:(findH p n.hv).2=true:=hp
 have hpp:=qd.1 (Zi h hp).1
 have hln:=Z6 n p true
 have hch:=h.nok.ch
 refine enx [.tmp 6] Tryz.func80 fun X w0=>?_
 repeat'(first|(refine spl ?_ ?_<;>(intro hb;refine ne ?_))|(refine zl hR ?_;clear hR)|refine s1 ?_|exact True.intro|refine cal (jc n.hv p h.hok h.srt h.rng (Zt hpp)) ?_|(((with_reducible refine zW ?_);refine zgC 9 90 136 19 ?_;refine rgx (ι:=List It×Nat) (n.ch.length) (fun k x=>St.ofA [(1,gI p),(2,gB true),(3,.loc 3 0),(7,.loc 7 0),(8,gB true),(9,.c (.o 90)),(23,j8 n.ch),(24,gI n.ch.length),(25,gI k)] [(3,27,cNd n),(7,43,cH (findH p n.hv).1)] [(90,x.2,136,19,x.1.map yS)]) (fun k x=>(qa n p true).take k=x.1) ([],90) ?_ (fun k x hJ hk=>?_) (fun x hJ=>?_));rotate_left;have hkl:k<n.ch.length:=hk;have hin:n.ch[k]∈n.ch:=List.getElem_mem hkl;have hxl:x.1.length=k:=(by rw[←hJ,List.length_take];omega);rcases YG h hin (findH p n.hv).1 p true with⟨c1,c9⟩|⟨c1,c2,c9⟩|⟨c1,c2,c3,c4,⟨c5,c9⟩|⟨c5,c6,c9⟩|⟨c5,c6,c9⟩⟩;rotate_left 2;exact absurd c5 (by decide))|(with_reducible refine qR rfl ?_)|(with_reducible refine qT ?_)|(dsimp only[YT])|refine rdb [] ?_|refine rex [] ?_|((with_reducible refine zL fun R hR=>?_);refine rex [] ?_)|refine cal (JS _ _ _ _ _ _ _ (jq h p) (zcn h p)) ?_|refine cal (zbp n n.ch[k].c.nm p h.nok) ?_|(refine jh ((x.1++[ZB n (findH p n.hv).1 p true n.ch[k]],74)) ?_ ?_ ?_;(focus((refine zp rfl ?_ ?_ ?_<;>simp<;>simp[noEx, *]);done));(focus(simp only[push_cast,seval, *];done)))|(refine s2 ?_;try with_reducible intro R hR)|fail)
 all_goals(refine gz ?_;grind[zb3,maxLen])
theorem zlZ (n:zQ) (p:Int) (h:zy n) (hp:hasP p n.hv=true):zu Tryz.prog 33 [jv n,gI p] (.c (.f (.l 19 ((qa n p true).map yS)))):=by
 refine enx [.tmp 4] Tryz.func33 fun X w0=>?_
 repeat'(first|(refine spl ?_ ?_<;>(intro hb;refine ne ?_))|(refine zl hR ?_;clear hR)|refine s1 ?_|exact True.intro|refine cal (zl4 n p h hp) ?_|(refine s2 ?_;try with_reducible intro R hR)|fail)
section
attribute [local simp] yS
theorem zk6 (n:zQ) (p:Int) (h:zy n) (hp:hasP p n.hv=true):zu Tryz.prog 80 [jv n,gI p,gB false] (.c (.f (.l 19 ((qa n p false).map yS)))):=by
 have hq:(findH p n.hv).2=true:=hp
 have hpp:=qd.1 (Zi h hp).1
 have hln:=Z6 n p false
 have hch:=h.nok.ch
 refine enx [.tmp 6] Tryz.func80 fun X w0=>?_
 repeat'(first|(refine spl ?_ ?_<;>(intro hb;refine ne ?_))|(refine zl hR ?_;clear hR)|refine s1 ?_|exact True.intro|refine cal (jc n.hv p h.hok h.srt h.rng (Zt hpp)) ?_|(((with_reducible refine zW ?_);refine zgC 9 90 136 19 ?_;refine rgx (ι:=List It×Nat) (n.ch.length) (fun k x=>St.ofA [(1,gI p),(2,gB false),(3,.loc 3 0),(7,.loc 7 0),(8,gB true),(9,.c (.o 90)),(23,j8 n.ch),(24,gI n.ch.length),(25,gI k)] [(3,27,cNd n),(7,43,cH (findH p n.hv).1)] [(90,x.2,136,19,x.1.map yS)]) (fun k x=>(qa n p false).take k=x.1) ([],90) ?_ (fun k x hJ hk=>?_) (fun x hJ=>?_));rotate_left;have hkl:k<n.ch.length:=hk;have hin:n.ch[k]∈n.ch:=List.getElem_mem hkl;have hxl:x.1.length=k:=(by rw[←hJ,List.length_take];omega);rcases YG h hin (findH p n.hv).1 p false with⟨c1,c9⟩|⟨c1,c2,c9⟩|⟨c1,c2,c3,c4,⟨c5,c9⟩|⟨c5,c6,c9⟩|⟨c5,c6,c9⟩⟩;rotate_left 3;exact absurd c5 (by decide);exact absurd c5 (by decide))|(with_reducible refine qR rfl ?_)|(with_reducible refine qT ?_)|(dsimp only[YT])|refine rdb [] ?_|refine rex [] ?_|((with_reducible refine zL fun R hR=>?_);refine rex [] ?_)|refine cal (JS _ _ _ _ _ _ _ (jq h p) (zcn h p)) ?_|refine cal (zbp n n.ch[k].c.nm p h.nok) ?_|(refine jh ((x.1++[ZB n (findH p n.hv).1 p false n.ch[k]],74)) ?_ ?_ ?_;(focus((refine zp rfl ?_ ?_ ?_<;>simp<;>simp[noEx, *]);done));(focus(simp only[push_cast,seval, *];done)))|(refine s2 ?_;try with_reducible intro R hR)|fail)
 all_goals(refine gz ?_;grind[zb3,maxLen])
end
end Go.Proofs.YtbcbnfiedgnfpaaGreat
