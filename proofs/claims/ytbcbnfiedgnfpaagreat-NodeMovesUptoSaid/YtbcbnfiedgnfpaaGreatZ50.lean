import Derived.Test.YtbcbnfiedgnfpaaGreatZ28
set_option linter.unusedSimpArgs false
set_option linter.unusedVariables false
set_option maxRecDepth 100000
set_option maxHeartbeats 2000000
namespace Go.Proofs.YtbcbnfiedgnfpaaGreat
open Go.Dl
attribute [local irreducible] DW yE zY zA zu zky
attribute [local push_cast] zZ qF qC zN zM zD zE qH qE qz Go.Dl.qY yT qy List.mem_cons List.not_mem_nil or_false forall_eq false_implies implies_true
theorem zuo {α:Type} {l:List α} {f:α→Bool} {k:Nat} (h:k<l.length):(l.take (k+1)).all f=((l.take k).all f&&f l[k]):=by
 rw[qJ h,List.all_append];simp only[List.all_cons,List.all_nil,Bool.and_true]
theorem ztx {α:Type} {l:List α} {f:α→Bool} {k:Nat} (h:k<l.length) (hf:f l[k]=false):l.all f=false:=by
 rw[List.all_eq_false];exact⟨l[k],List.getElem_mem h,by rw[hf];decide⟩
theorem zsO {n:zQ} (h:zy n):zaj n=n.hv.all (xH n.want n.seen n.ch):=by
 cases ha:n.hv.all (xH n.want n.seen n.ch)
 ·cases hb:zaj n
  ·rfl
  ·have:=(zcM.1 hb).2
   rw[List.all_eq_false]at ha
   obtain⟨x,hx,hn⟩:=ha
   exact absurd (this x hx) hn
 ·exact zcM.2 ⟨h,by simpa using ha⟩
theorem zvc {n:zQ} (h: ¬zy n):zaj n=false:=by
 cases hb:zaj n
 ·rfl
 ·exact absurd (zcM.1 hb).1 h
theorem zrl (n:zQ) (h:zy n):zu Tryz.prog 36 [jv n] (gB (n.hv.all (xH n.want n.seen n.ch))):=by
 obtain⟨hb1,hb2⟩:=h.bt
 obtain⟨ht1,ht2⟩:=h.tk
 obtain⟨hi1,hi2⟩:=qd.1 h.idB
 have hn:=h.nok
 have e1:=h.want
 have e2:=h.seen
 have e3:=h.hv
 have e4:=h.ch
 have hwl:=(zU.1 h.want).2.1
 have hsl:=qt h.seen
 have hhl:=jW h.hv
 have hcl:n.ch.length≤8:=(zH.1 h.ch).2.2.1
 have hss:=h.srtS
 have hlen: ∀(i:Nat) (hi:i<n.hv.length),n.hv[i].lines.length≤8:=fun i hi=>(z0.1 ((q8.1 h.hv).2.1 _ (List.getElem_mem hi))).2.1
 replace hlen:=Lib.hid hlen
 refine enx [.tmp 2] Tryz.func36 fun X w0=>?_
 repeat'(first|(refine spl ?_ ?_<;>(intro hb;refine ne ?_))|(refine zl hR ?_;clear hR)|refine s1 ?_|exact True.intro|(exfalso;omega)|refine cal (zij n.id n.want n.tn (by omega)) ?_|refine cal (zoV n.id n.seen (by omega)) ?_|refine cal (zfS n.id n.hv (by omega) hn.hn) ?_|refine cal (zpl n.id n.ch (by omega)) ?_|(have hkk:n.hv[k]=hx:=hhx;clear hkk;((with_reducible refine zW ?_);refine rgx (ι:=Unit) (hx.lines.length) (fun j _=>St.ofA [(1,.loc 1 0),(71,Zs n.hv),(72,gI n.hv.length),(73,gI k),(100,.c (.f (.l 4 (hx.lines.map ZY)))),(101,gI hx.lines.length),(102,gI j)] [(1,27,cNd n)] []) (fun j _=>(hx.lines.take j).all (xL n.ch)=true) () ?_ (fun k x hJ hk=>?_) (fun x hJ=>?_)))|(((with_reducible refine zW ?_);refine rgx (ι:=Unit) (n.hv.length) (fun k _=>St.ofA [(1,.loc 1 0),(71,Zs n.hv),(72,gI n.hv.length),(73,gI k)] [(1,27,cNd n)] []) (fun k _=>(n.hv.take k).all (xH n.want n.seen n.ch)=true) () ?_ (fun k x hJ hk=>?_) (fun x hJ=>?_));rotate_left;obtain⟨hx,hhx⟩: ∃y,n.hv[k]=y:=⟨_,rfl⟩;have hll:hx.lines.length≤8:=(by rw[←hhx];exact hlen k hk))|refine cal (zeD n.seen _ hss (by omega)) ?_|refine cal (zig n.want _ (by omega)) ?_|refine cal (zhA _ _ _ _) ?_|refine cal (zch n.ch _ (by omega)) ?_|refine cal (zdG _) ?_|refine rdb [] ?_|refine rnx (()) ?_|(refine s2 ?_;try with_reducible intro R hR)|fail)
 all_goals(try refine congrArg F.s (congrArg Value.bool ?_))
 all_goals(refine gz ?_;grind[zuo,ztx,xH,xL])
theorem zrk (n:zQ) (hn:NOk n) (hK: ¬zy n):zu Tryz.prog 36 [jv n] (gB false):=by
 have h1:=hn.want
 have h2:=hn.seen
 have h3:=hn.hv
 have h4:=hn.ch
 refine enx [.tmp 2] Tryz.func36 fun X w0=>?_
 repeat'(first|(refine spl ?_ ?_<;>(intro hb;refine ne ?_))|(refine zl hR ?_;clear hR)|refine s1 ?_|exact True.intro|refine cal (zij n.id n.want n.tn (by omega)) ?_|refine cal (zoV n.id n.seen (by omega)) ?_|refine cal (zfS n.id n.hv (by omega) hn.hn) ?_|refine cal (zpl n.id n.ch (by omega)) ?_|refine rdb [] ?_|(refine s2 ?_;try with_reducible intro R hR)|fail)
 exact absurd ⟨⟨by omega,by omega⟩,⟨by omega,by omega⟩,by simpa using ‹(!wantB _ _ _)=false›,by simpa using ‹(!fitsS _ _)=false›,by simpa using ‹(!fitsH _ _)=false›,by simpa using ‹(!fitsT _ _)=false›⟩ hK
theorem zqr (n:zQ) (hn:NOk n):zu Tryz.prog 36 [jv n] (gB (zaj n)):=by
 by_cases h:zy n
 ·rw[zsO h];exact zrl n h
 ·rw[zvc h];exact zrk n hn h
theorem zoj (n:zQ) (h:zy n):zu Tryz.prog 13 [jv n] (gB (n.hv.all (xH n.want n.seen n.ch))):=by
 obtain⟨hb1,hb2⟩:=h.bt
 obtain⟨ht1,ht2⟩:=h.tk
 obtain⟨hi1,hi2⟩:=qd.1 h.idB
 have hn:=h.nok
 have e1:=h.want
 have e2:=h.seen
 have e3:=h.hv
 have e4:=h.ch
 have hwl:=(zU.1 h.want).2.1
 have hsl:=qt h.seen
 have hhl:=jW h.hv
 have hcl:n.ch.length≤8:=(zH.1 h.ch).2.2.1
 have hss:=h.srtS
 have hlen: ∀(i:Nat) (hi:i<n.hv.length),n.hv[i].lines.length≤8:=fun i hi=>(z0.1 ((q8.1 h.hv).2.1 _ (List.getElem_mem hi))).2.1
 have hone:True:=trivial
 refine enx [.tmp 2] Tryz.func13 fun X w0=>?_
 repeat'(first|(refine spl ?_ ?_<;>(intro hb;refine ne ?_))|(refine zl hR ?_;clear hR)|refine s1 ?_|exact True.intro|(exfalso;omega)|refine cal (zeW n.id n.want n.tn (by omega)) ?_|refine cal (zfG n.id n.seen (by omega)) ?_|refine cal (zdW n.id n.hv (by omega) hn.hn) ?_|refine cal (zfM n.id n.ch (by omega) hn.nm) ?_|(have hkk:n.hv[k]=hx:=hhx;clear hkk;((with_reducible refine zO ?_);refine frx (ι:=Unit) (hx.lines.length) (fun j _=>St.ofA [(1,.loc 1 0),(3,gI k),(4,.loc 4 0),(6,gI j)] [(1,27,cNd n),(4,43,cH hx)] []) (fun j _=>(hx.lines.take j).all (xL n.ch)=true) () ?_ (fun k x hJ hk R hR=>?_)))|(have htw:True:=hone;clear hone;((with_reducible refine zO ?_);refine frx (ι:=Unit) (n.hv.length) (fun k _=>St.ofA [(1,.loc 1 0),(3,gI k)] [(1,27,cNd n)] []) (fun k _=>(n.hv.take k).all (xH n.want n.seen n.ch)=true) () ?_ (fun k x hJ hk R hR=>?_)))|(with_reducible refine qn ?_;have hk2:k<n.hv.length:=(by omega);obtain⟨hx,hhx⟩: ∃y,n.hv[k]=y:=⟨_,rfl⟩;have hll:n.hv[k].lines.length≤8:=hlen k hk2;rw[hhx]at hll)|refine cal (jD n.seen _ (by omega)) ?_|refine cal (Qi n.want _ (by omega)) ?_|refine cal (QI _ _ _ _) ?_|refine rdb [7] ?_|refine cad (jf n.ch _ (by omega)) ?_|refine lat ?_|refine cal (jf n.ch _ (by omega)) ?_|refine cal (JH _) ?_|refine rdb [] ?_|refine fnx (()) ?_ ?_|(refine s2 ?_;try with_reducible intro R hR)|fail)
 all_goals(try refine congrArg F.s (congrArg Value.bool ?_))
 all_goals(refine gz ?_;grind[zuo,ztx,xH,xL])
theorem zmF (n:zQ) (hn:NOk n) (hK: ¬zy n):zu Tryz.prog 13 [jv n] (gB false):=by
 have h1:=hn.want
 have h2:=hn.seen
 have h3:=hn.hv
 have h4:=hn.ch
 refine enx [.tmp 2] Tryz.func13 fun X w0=>?_
 repeat'(first|(refine spl ?_ ?_<;>(intro hb;refine ne ?_))|(refine zl hR ?_;clear hR)|refine s1 ?_|exact True.intro|refine cal (zeW n.id n.want n.tn (by omega)) ?_|refine cal (zfG n.id n.seen (by omega)) ?_|refine cal (zdW n.id n.hv (by omega) hn.hn) ?_|refine cal (zfM n.id n.ch (by omega) hn.nm) ?_|refine rdb [] ?_|(refine s2 ?_;try with_reducible intro R hR)|fail)
 exact absurd ⟨⟨by omega,by omega⟩,⟨by omega,by omega⟩,by simpa using ‹(!wantB _ _ _)=false›,by simpa using ‹(!fitsS _ _)=false›,by simpa using ‹(!fitsH _ _)=false›,by simpa using ‹(!fitsT _ _)=false›⟩ hK
theorem zgv (n:zQ) (hn:NOk n):zu Tryz.prog 13 [jv n] (gB (zaj n)):=by
 by_cases h:zy n
 ·rw[zsO h];exact zoj n h
 ·rw[zvc h];exact zmF n hn h
end Go.Proofs.YtbcbnfiedgnfpaaGreat
