import Derived.Test.YtbcbnfiedgnfpaaGreatZ43
import Derived.Test.YtbcbnfiedgnfpaaGreatZ44
set_option linter.unusedSimpArgs false
set_option linter.unusedVariables false
set_option maxRecDepth 100000
set_option maxHeartbeats 2000000
namespace Go.Proofs.YtbcbnfiedgnfpaaGreat
open Go.Dl
attribute [local irreducible] DW yE zY zA zu zky
attribute [local push_cast] zZ qF qC zN zM zD zE qH qE qz Go.Dl.qY yT qy List.mem_cons List.not_mem_nil or_false forall_eq false_implies implies_true
section
attribute [local simp] cv jS
theorem zsY (w:Wk) (kd fr bt lf:Int):(qf w kd fr bt lf).ps=w.ps∧(qf w kd fr bt lf).es.length≤w.es.length+1:=by
 unfold qf;split<;>simp
theorem zjj: ∀(l:List It) (w:Wk) (b:Bool),(qU w b l).1.es.length≤w.es.length+l.length
 |[],w,b=>by simp[qU]
 | x::l,w,b=>by
  rw[qU]
  split
  ·have:=zjj l (jA ⟨w.n.chS (Qw w.n.ch x.c).1,w.ps,w.es⟩ x.c) true
   simp only[jA,List.length_append,List.length_cons,List.length_nil]at this ⊢
   omega
  ·have:=zjj l w b
   simp only[List.length_cons];omega
theorem zoA: ∀(l:List It) (w:Wk) (kd fr:Int),(yo w kd fr l).es.length≤w.es.length+l.length
 |[],w,kd,fr=>by simp[yo]
 |x::l,w,kd,fr=>by
  rw[yo]
  have h1:=zkZ w kd fr x
  have h2:=zoA l (yZ w kd fr x) kd fr
  simp only[List.length_cons];omega
theorem zwy (w:Wk) (p:qO) (hF:zy w.n) (hH:Jg w.n p) (hl8:p.its.length≤8) (he:w.es.length≤100000) (hps:w.ps.length≤100000):zA Tryz.prog 255 [.loc 0 0,ZJ p] (jg w.n) (qI w.ps w.es) (.tup []) (jg (ZL w p).n) (qI (ZL w p).ps (ZL w p).es):=by
 obtain⟨n,ps,es⟩:=w
 simp only at hF hH he hps
 obtain⟨kd,fr,to,bt,lf,ec,el,its⟩:=p
 have hfr:=hH.fr
 have hits:=hH.its
 simp only at hl8 hfr hits
 obtain⟨k1,k2,k3,k4⟩:=Jk (w:=⟨n,ps,es⟩) (kd:=kd) hF hH.fr hH.ne hH.bt hH.lf
 have hps1:=zsY ⟨n,ps,es⟩ kd fr bt lf
 have s1:=Yx (b:=false) k1 fun x hx=>y8 (hits x hx)
 have s2:=JQ (kd:=kd) s1.k (by rw[s1.has];exact k2) hits
 have hes2:=zjj its (qf ⟨n,ps,es⟩ kd fr bt lf) false
 have hes3:=zoA its (qU (qf ⟨n,ps,es⟩ kd fr bt lf) false its).1 kd fr
 have hps2:=(zc4 (l:=its) (w:=qf ⟨n,ps,es⟩ kd fr bt lf) (b:=false)).1
 have hps3:=(zfl (l:=its) (w:=(qU (qf ⟨n,ps,es⟩ kd fr bt lf) false its).1) (kd:=kd) (fr:=fr)).1
 unfold ZL YA
 simp only
 generalize hw1:qf ⟨n,ps,es⟩ kd fr bt lf=w1 at*
 have c2:=zrI w1 its k1 (fun x hx=>y8 (hits x hx)) hl8 (by simp only at hps1;omega)
 generalize hw2:qU w1 false its=r at*
 obtain⟨w2,lr⟩:=r
 simp only at*
 have hh2:hasP fr w2.n.hv=true:=by rw[s1.has];exact k2
 generalize hw3:yo w2 kd fr its=w3 at*
 have hh3:hasP fr w3.n.hv=true:=by rw[s2.has];exact hh2
 have hp2:w2.ps.length≤1000000:=by rw[hps2,hps1.1];omega
 have hp3:w3.ps.length≤2000000:=by rw[hps3];omega
 have hhl:=jW s2.k.hv
 have hln:(qg w3.n.hv).length≤16:=by unfold qg;rw[List.length_map];exact hhl
 have hmem: ∀q∈qg w3.n.hv,hasP q w3.n.hv=true:=fun q hq=>yP.2 hq
 by_cases hbg:Z4 (findH fr n.hv) bt lf=true
 ·rw[hbg]
  by_cases h3:kd=3
  ·subst h3
   rw[if_pos rfl]
   have e1:w1=⟨n.hvS (qu n.hv ⟨fr,bt,lf,[],false,0⟩),ps,es++[⟨1,fr,yI,bt⟩]⟩:=by rw[←hw1];unfold qf jJ;simp[hbg]
   subst e1
   exact zvl n ps es fr to bt lf ec el its hF he hits hl8 hbg _ w2 w3 _ lr _ c2 s1.k hh2 (by omega) hp2 hw3 s2.k hh3 (by omega) hp3 rfl hmem hln rfl rfl
  ·by_cases h4:kd=4
   ·subst h4
    rw[if_neg (by decide)]
    have e1:w1=⟨n.hvS (qu n.hv ⟨fr,bt,lf,[],false,0⟩),ps,es++[⟨1,fr,yI,bt⟩]⟩:=by rw[←hw1];unfold qf jJ;simp[hbg,Yc]
    subst e1
    exact zvD n ps es fr to bt lf ec el its hF he hits hl8 hbg _ w2 w3 _ lr _ c2 s1.k hh2 (by omega) hp2 hw3 s2.k hh3 (by omega) hp3 rfl hmem hln rfl rfl
   ·rw[if_neg h3]
    have e1:w1=⟨n.hvS (qu n.hv ⟨fr,bt,lf,[],false,0⟩),ps,es++[⟨1,fr,yI,bt⟩]⟩:=by rw[←hw1];unfold qf jJ;simp[hbg,h4]
    subst e1
    exact zvH n ps es kd fr to bt lf ec el its hF he (by simpa using h3) (by simpa using h4) hits hl8 hbg _ w2 w3 _ lr _ c2 s1.k hh2 (by omega) hp2 hw3 s2.k hh3 (by omega) hp3 rfl hmem hln rfl rfl
 ·have hbg:Z4 (findH fr n.hv) bt lf=false:=by simpa using hbg
  rw[hbg]
  have hp:=zjs hbg
  have h2:=(hF.find hp).2.1
  have hll:=jq hF fr
  rcases hq:(findH fr n.hv).1 with⟨q,bo,li,ls,pe,mi⟩
  rw[hq]at h2 hll
  simp only at h2 hll
  subst h2
  by_cases h3:kd=3
  ·subst h3
   rw[if_pos rfl]
   have e1:w1=⟨n.hvS (qu n.hv ⟨q,bo,li,ls,pe,0⟩),ps,es⟩:=by rw[←hw1];unfold qf jJ;simp[hbg,hq,ZR]
   subst e1
   exact zxl n ps es q to bt lf ec el its hF he hits hl8 hbg bo li ls pe mi hq hll _ w2 w3 _ lr _ c2 s1.k hh2 (by omega) hp2 hw3 s2.k hh3 (by omega) hp3 rfl hmem hln rfl rfl
  ·by_cases h4:kd=4
   ·subst h4
    rw[if_neg (by decide)]
    have e1:w1=⟨n.hvS (qu n.hv ⟨q,bo,li,ls,false,0⟩),ps,es⟩:=by rw[←hw1];unfold qf jJ;simp[hbg,hq,ZR,Yc]
    subst e1
    exact zvx n ps es q to bt lf ec el its hF he hits hl8 hbg bo li ls pe mi hq hll _ w2 w3 _ lr _ c2 s1.k hh2 (by omega) hp2 hw3 s2.k hh3 (by omega) hp3 rfl hmem hln rfl rfl
   ·rw[if_neg h3]
    have e1:w1=⟨n.hvS (qu n.hv ⟨q,bo,li,ls,pe,0⟩),ps,es⟩:=by rw[←hw1];unfold qf jJ;simp[hbg,hq,ZR,h4]
    subst e1
    exact zvs n ps es kd q to bt lf ec el its hF he (by simpa using h3) (by simpa using h4) hits hl8 hbg bo li ls pe mi hq hll _ w2 w3 _ lr _ c2 s1.k hh2 (by omega) hp2 hw3 s2.k hh3 (by omega) hp3 rfl hmem hln rfl rfl
end
end Go.Proofs.YtbcbnfiedgnfpaaGreat
