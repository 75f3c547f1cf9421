/- For every input that a machine can hold (the '..UptoSaid' form: all that the arguments reach weighs at most 1048576) the Go function eddylaw20.NodePairs of the given program returns true, never panics, and changes nothing that was there before. No further condition. -/
import Derived.Test.YtbcbnfiedgnfpaaGreatZ25
import Derived.Test.YtbcbnfiedgnfpaaGreatZ39
import Derived.Test.YtbcbnfiedgnfpaaGreatZ50
import Derived.Test.YtbcbnfiedgnfpaaGreatZ26
set_option linter.unusedSimpArgs false
set_option linter.unusedVariables false
set_option maxRecDepth 100000
set_option maxHeartbeats 2000000
namespace Go.Proofs.YtbcbnfiedgnfpaaGreat
open Go.Dl
section
def exG:Nat→zQ→zQ→List qO→zQ×zQ×Bool
 | _,m,n,[]=>(m,n,true)
 |0,m,n,_::_=>(m,n,false)
 |k+1,m,n,p::q=>if p.to=n.id then exG k m (jp n p).n (q++(jp n p).ps)else exG k (jp m p).n n (q++(jp m p).ps)
def zEq (m n:zQ):zQ×zQ×Bool:=exG 41 (tickW m).n n (tickW m).ps
section
variable {a b bA bB sc:Int}
theorem zFV (h:Two a b bA bB sc):jC (chM a sc)=true:=by
 have h1:jr emB=true:=by decide
 have:=h.hs
 simp only[jC,chM,h1,h.na,zcQ,JF,Bool.and_eq_true,decide_eq_true_eq];simp;exact⟨decide_eq_true this.1,decide_eq_true this.2⟩
theorem zAl (x y:Int):latB x y x y=false:=by rw[ziz];omega
theorem zun (p bt:Int):getS [⟨p,bt,0,0⟩] p=⟨p,bt,0,0⟩:=by rw[j0,if_pos rfl]
theorem zFT (p bt:Int) (hb:1≤bt):qh [] (ZZ (getS [] p) bt 0)=[⟨p,bt,0,0⟩]:=by
 have:latB bt 0 0 0=true:=by rw[zxH];omega
 simp only[ztE,ZZ,this,if_true,qh,zo2,zwe,List.take_nil,List.drop_nil,List.nil_append,List.append_nil]
 rw[if_neg (by omega)]
theorem zFY (p bt:Int) (hb:1≤bt):qh [⟨p,bt,0,0⟩] (ZZ (getS [⟨p,bt,0,0⟩] p) bt 0)=[⟨p,bt,0,0⟩]:=by
 rw[zun]
 have:ZZ ⟨p,bt,0,0⟩ bt 0=⟨p,bt,0,0⟩:=by simp[ZZ,zAl]
 rw[this]
 have h1:Jl p [⟨p,bt,0,0⟩]=0:=by rw[ZT,if_neg (by simp)]
 have h2:isS p [⟨p,bt,0,0⟩]=true:=by rw[zcH,if_neg (by simp)];simp
 simp only[qh,h1,h2,List.take_zero,List.nil_append,if_true]
 rw[if_neg (by omega)];rfl
theorem zFN (h:Hf):qu [] h=[h]:=rfl
theorem zFL (p bt lf:Int) (ls:List Ln) (pe:Bool) (m:Int) (h:Hf) (hp:h.peer=p):qu [⟨p,bt,lf,ls,pe,m⟩] h=[h]:=by
 subst hp
 simp[qu,ZM,zlu,Yr]
theorem zoW (p bt lf:Int) (ls:List Ln) (pe:Bool) (m bt' lf':Int) (ls':List Ln) (pe':Bool) (m':Int):qu [⟨p,bt,lf,ls,pe,m⟩] ⟨p,bt',lf',ls',pe',m'⟩=[⟨p,bt',lf',ls',pe',m'⟩]:=zFL _ _ _ _ _ _ _ rfl
theorem zdH (p bt lf:Int) (ls:List Ln) (pe:Bool) (m:Int):findH p [⟨p,bt,lf,ls,pe,m⟩]=(⟨p,bt,lf,ls,pe,m⟩,true):=by rw[Yo,if_pos rfl]
theorem zjP (a sc:Int) (has:Bool) (x:Int):findT emB [⟨chM a sc,has,x,noEx,noEx⟩]=(⟨chM a sc,has,x,noEx,noEx⟩,true):=by
 rw[findT,if_pos (by simp[Jr,chM])]
theorem zFd (a sc:Int) (has:Bool) (x:Int):Qw [⟨chM a sc,has,x,noEx,noEx⟩] (chM a sc)=([⟨chM a sc,has,x,noEx,noEx⟩],false):=by
 have h:newR 1 a 1 a=false:=by rw[zuM];omega
 have:yx [chM a sc] (chM a sc)=([chM a sc],2):=by
  unfold yx;simp only[jF];simp[chM,h]
 simp[Qw,recT,this]
theorem zF2 (a sc:Int):Qw [] (chM a sc)=([⟨chM a sc,false,0,noEx,noEx⟩],true):=by
 have:yx [] (chM a sc)=([chM a sc],4):=by
  unfold yx;simp[za9,YY]
 simp[Qw,recT,this,JM,pkB,zbA]
theorem zDD (a sc:Int) (has:Bool) (x:Int):JL [⟨chM a sc,has,x,noEx,noEx⟩] (chM a sc)=true:=by
 have:(chM a sc).nm=emB:=rfl
 simp only[JL,this,zjP];simp[chM]
def itM (a sc:Int) (g:jQ) (hr:Bool) (rs:Int):It:=⟨chM a sc,g.1,g.2.1,g.2.2,hr,rs,noEx,noEx⟩
def lnM (g:jQ):List Ln:=if ZK g then []else [⟨emB,g.1,g.2.1,g.2.2⟩]
theorem zDC (g:jQ):findL emB (lnM g)=g:=by
 unfold lnM;split
 ·rename_i h;rw[zDX.1 h];rfl
 ·rw[findL,if_pos (by simp)];rfl
theorem zDB (id a sc bt tk tn:Int) (want:List Int) (seen:List Sn) (p bt' lf:Int) (g:jQ) (pe:Bool) (m:Int) (has:Bool) (x:Int) (rests:Bool):
  qa ⟨id,bt,tk,want,tn,seen,[⟨p,bt',lf,lnM g,pe,m⟩],[⟨chM a sc,has,x,noEx,noEx⟩]⟩ p rests=[if rests&&flowB x then itM a sc g true x else itM a sc g false 0]:=by
 have hr:Yt id x [⟨p,bt',lf,lnM g,pe,m⟩] emB p=zeu x:=by
  unfold Yt
  congr 1
  have key: ∀(l:List (Int×Int)) (s:Int),(∀e∈l,e.1=p)→zdK (-1) (fun n=>decide (n≠p)) l s=s:=by
   intro l
   induction l with
   |nil=>intro s _;rfl
   |cons y l ih=>
    intro s h
    rw[zdN,if_neg (by simp[h y (List.mem_cons_self ..)])]
    exact ih s fun e he=>h e (List.mem_cons_of_mem _ he)
  refine key _ _ fun e he=>?_
  unfold lnM at he
  split at he
  ·simp[ZH,zbe]at he
  ·simp[ZH,zbe]at he;rw[he]
 have hf:QQ 1=true:=rfl
 unfold qa
 simp only[List.map_cons,List.map_nil,zdH,ZB]
 have h1:(chM a sc).nm=emB:=rfl
 have h2:(chM a sc).al=true:=rfl
 have h3:(chM a sc).kd=1:=rfl
 rw[h1,h2,h3,hf,hr,zDC]
 simp only[Bool.and_self,if_true]
 cases rests
 ·simp[itM]
 ·cases hx:flowB x<;>simp[zeu,hx,itM]
theorem zGe (g g':jQ):jB (lnM g) emB g'=lnM g':=by
 have hb:Op.bytesLess emB.toList emB.toList=false:=y4 _
 unfold jB lnM
 cases hz:ZK g<;>cases hz':ZK g'<;>simp[ltL,qY,hb,hz']
def ndM (id bt tk p btp:Int) (g:jQ) (pe:Bool) (a sc:Int) (has:Bool) (x:Int):zQ:=⟨id,bt,tk,[p],0,[⟨p,btp,0,0⟩],[⟨p,btp,0,lnM g,pe,0⟩],[⟨chM a sc,has,x,noEx,noEx⟩]⟩
def zyG (id p:Int) (g g':jQ):jQ:=if Qd g'.1 g'.2.1 g'.2.2 id p&&newR g'.1 g'.2.1 g.1 g.2.1 then g' else g
theorem zFC (id p btp:Int) (g g':jQ) (pe:Bool) (m:Int):(QG id ⟨p,btp,0,lnM g,pe,m⟩ emB g').1=⟨p,btp,0,lnM (zyG id p g g'),pe,m⟩:=by
 unfold QG zyG
 simp only[zDC]
 split
 ·simp only[zaL,zGe]
 ·rfl
theorem zC5 {p bt btp:Int} {k:Int} (hk: ¬k=1):j9 (getS [⟨p,btp,0,0⟩] p) bt k btp 0 bt 0=2:=by
 rw[zun];unfold j9;simp only[zAl];simp[hk]
theorem zF7 (id bt tk p btp:Int) (g:jQ) (pe:Bool) (a sc:Int) (has:Bool) (x:Int) (q:qO) (hq:q.fr=p∧q.bt=btp∧q.lf=0) (hb:1≤btp):qW (ndM id bt tk p btp g pe a sc has x) q=ndM id bt tk p btp g pe a sc has x:=by
 simp only[qW,ndM,zQ.seS,hq.1,hq.2.1,hq.2.2,zFY p btp hb]
theorem zC0 {id bt tk p btp:Int} {g g':jQ} {pe:Bool} {a sc:Int} {has hr:Bool} {x rs:Int} (hb:1≤btp) (hp:jb ⟨4,p,id,btp,0,bt,0,[itM a sc g' hr rs]⟩=true):
  jp (ndM id bt tk p btp g pe a sc has x) ⟨4,p,id,btp,0,bt,0,[itM a sc g' hr rs]⟩=⟨ndM id bt tk p btp (zyG id p g g') false a sc has x,[],[]⟩:=by
 unfold jp
 simp only[hp]
 have h1:(ndM id bt tk p btp g pe a sc has x).id=id:=rfl
 have h2:(ndM id bt tk p btp g pe a sc has x).want=[p]:=rfl
 have h3:(ndM id bt tk p btp g pe a sc has x).seen=[⟨p,btp,0,0⟩]:=rfl
 have h4:(ndM id bt tk p btp g pe a sc has x).bt=bt:=rfl
 rw[h1,h2,h3,h4,zC5 (by omega)]
 simp only[Bool.not_true,Bool.false_or,ne_eq,not_true_eq_false,decide_false,List.mem_singleton,decide_true,Bool.false_eq_true,if_false]
 rw[if_neg (by omega),if_pos trivial]
 unfold Q9
 rw[if_pos (by simp)]
 rw[zF7 id bt tk p btp g pe a sc has x ⟨4,p,id,btp,0,bt,0,[itM a sc g' hr rs]⟩ ⟨rfl,rfl,rfl⟩ hb]
 unfold ZL
 have hbg:Z4 (findH p (ndM id bt tk p btp g pe a sc has x).hv) btp 0=false:=by
  simp only[ndM,zdH,Z4,zAl];rfl
 have hh:qf ⟨ndM id bt tk p btp g pe a sc has x,[],[]⟩ 4 p btp 0=⟨ndM id bt tk p btp g false a sc has x,[],[]⟩:=by
  unfold qf jJ
  simp only[hbg]
  simp only[Bool.false_eq_true,if_false,if_true,Q4,zQ.hvS,ndM,zdH,Yc,ZR]
  rw[zoW]
 simp only[hh,hbg]
 have hl:qU ⟨ndM id bt tk p btp g false a sc has x,[],[]⟩ false [itM a sc g' hr rs]=(⟨ndM id bt tk p btp g false a sc has x,[],[]⟩,false):=by
  have e:Qw (ndM id bt tk p btp g false a sc has x).ch (itM a sc g' hr rs).c=([⟨chM a sc,has,x,noEx,noEx⟩],false):=zFd _ _ _ _
  simp only[qU,e];simp
 rw[hl]
 have hm:yo ⟨ndM id bt tk p btp g false a sc has x,[],[]⟩ 4 p [itM a sc g' hr rs]=⟨ndM id bt tk p btp (zyG id p g g') false a sc has x,[],[]⟩:=by
  have ho:JL (ndM id bt tk p btp g false a sc has x).ch (itM a sc g' hr rs).c=true:=zDD _ _ _ _
  have hf:findT (itM a sc g' hr rs).c.nm (ndM id bt tk p btp g false a sc has x).ch=(⟨chM a sc,has,x,noEx,noEx⟩,true):=zjP _ _ _ _
  simp only[yo,yZ,ho,hf]
  rw[if_neg (by simp),if_neg (by simp[chM]),if_neg (by simp)]
  have e:(findH p (ndM id bt tk p btp g false a sc has x).hv).1=⟨p,btp,0,lnM g,false,0⟩:=by simp only[ndM,zdH]
  have e2:(itM a sc g' hr rs).c.nm=emB:=rfl
  have e3:((itM a sc g' hr rs).ve,(itM a sc g' hr rs).wt,(itM a sc g' hr rs).fl)=g':=rfl
  rw[e,e2,e3]
  have e4:(ndM id bt tk p btp g false a sc has x).id=id:=rfl
  rw[e4,zFC]
  simp only[Q4,zQ.hvS,ndM]
  rw[zoW]
 simp only[hm]
 rw[if_neg (by omega)]
 unfold YA
 have hpe:qg (ndM id bt tk p btp (zyG id p g g') false a sc has x).hv=[p]:=rfl
 rw[hpe]
 simp[yg]
def zC8 (id p:Int) (g:jQ) (x rs:Int):jQ:=if(zbq id p g.1 g.2.1 g.2.2 x rs).2.2=0∧(zbq id p g.1 g.2.1 g.2.2 x rs).2.1≠0 then(zbq id p g.1 g.2.1 g.2.2 x rs).1 else g
theorem zGA (id p btp:Int) (g:jQ) (pe:Bool) (m x:Int) (hx:flowB x=true):Yt id x [⟨p,btp,0,lnM g,pe,m⟩] emB p=(x,0):=by
 have:Yt id x [⟨p,btp,0,lnM g,pe,m⟩] emB p=zeu x:=by
  unfold Yt
  congr 1
  have key: ∀(l:List (Int×Int)) (s:Int),(∀e∈l,e.1=p)→zdK (-1) (fun n=>decide (n≠p)) l s=s:=by
   intro l
   induction l with
   |nil=>intro s _;rfl
   |cons y l ih=>
    intro s h
    rw[zdN,if_neg (by simp[h y (List.mem_cons_self ..)])]
    exact ih s fun e he=>h e (List.mem_cons_of_mem _ he)
  refine key _ _ fun e he=>?_
  unfold lnM at he
  split at he
  ·simp[ZH,zbe]at he
  ·simp[ZH,zbe]at he;rw[he]
 rw[this];simp[zeu,hx]
theorem zF5 {id bt tk p btp:Int} {g g':jQ} {pe:Bool} {a sc:Int} {has hr:Bool} {x rs:Int} (hx:flowB x=true) (ps:List qO) (es:List ZF):
  ∃es',Yp ⟨ndM id bt tk p btp g pe a sc has x,ps,es⟩ p (itM a sc g' hr rs)=⟨ndM id bt tk p btp (zC8 id p g x rs) pe a sc has x,ps,es'⟩:=by
 have hf:findT (itM a sc g' hr rs).c.nm (ndM id bt tk p btp g pe a sc has x).ch=(⟨chM a sc,has,x,noEx,noEx⟩,true):=zjP _ _ _ _
 have e2:(itM a sc g' hr rs).c.nm=emB:=rfl
 have e1:Yt (ndM id bt tk p btp g pe a sc has x).id x (ndM id bt tk p btp g pe a sc has x).hv emB p=(x,0):=zGA id p btp g pe 0 x hx
 have e3:findH p (ndM id bt tk p btp g pe a sc has x).hv=(⟨p,btp,0,lnM g,pe,0⟩,true):=zdH ..
 have e4:(ndM id bt tk p btp g pe a sc has x).id=id:=rfl
 have e5:(itM a sc g' hr rs).rs=rs:=rfl
 unfold Yp
 simp only
 rw[hf,e2]
 simp only
 rw[e1,e3]
 simp only[zDC,e4,e5]
 unfold zC8
 by_cases h1:(zbq id p g.1 g.2.1 g.2.2 x rs).2.2=0
 ·by_cases h2:(zbq id p g.1 g.2.1 g.2.2 x rs).2.1=0
  ·simp only[h1,h2];exact⟨es,by simp⟩
  ·simp only[h1,h2]
   refine⟨es++[⟨3,p,emB,(zbq id p g.1 g.2.1 g.2.2 x rs).2.1⟩],?_⟩
   simp[ndM,zaL,zGe,zoW,h2]
 ·simp only[h1];exact⟨es++[⟨4,p,emB,0⟩],by simp[h1]⟩
theorem zD9 {id bt tk p btp:Int} {g g':jQ} {pe:Bool} {a sc:Int} {has:Bool} {x rs:Int} (hb:1≤btp) (hx:flowB x=true) (hp:jb ⟨3,p,id,btp,0,bt,0,[itM a sc g' true rs]⟩=true):
  ∃es,jp (ndM id bt tk p btp g pe a sc has x) ⟨3,p,id,btp,0,bt,0,[itM a sc g' true rs]⟩=⟨ndM id bt tk p btp (zC8 id p (zyG id p g g') x rs) pe a sc has x,[⟨4,id,p,bt,0,btp,0,[itM a sc (zC8 id p (zyG id p g g') x rs) false 0]⟩],es⟩:=by
 unfold jp
 simp only[hp]
 have h1:(ndM id bt tk p btp g pe a sc has x).id=id:=rfl
 have h2:(ndM id bt tk p btp g pe a sc has x).want=[p]:=rfl
 have h3:(ndM id bt tk p btp g pe a sc has x).seen=[⟨p,btp,0,0⟩]:=rfl
 have h4:(ndM id bt tk p btp g pe a sc has x).bt=bt:=rfl
 rw[h1,h2,h3,h4,zC5 (by omega)]
 simp only[Bool.not_true,Bool.false_or,ne_eq,not_true_eq_false,decide_false,List.mem_singleton,decide_true,Bool.false_eq_true,if_false]
 rw[if_neg (by omega),if_pos trivial]
 unfold Q9
 rw[if_pos (by simp)]
 rw[zF7 id bt tk p btp g pe a sc has x ⟨3,p,id,btp,0,bt,0,[itM a sc g' true rs]⟩ ⟨rfl,rfl,rfl⟩ hb]
 unfold ZL
 have hbg:Z4 (findH p (ndM id bt tk p btp g pe a sc has x).hv) btp 0=false:=by
  simp only[ndM,zdH,Z4,zAl];rfl
 have hh:qf ⟨ndM id bt tk p btp g pe a sc has x,[],[]⟩ 3 p btp 0=⟨ndM id bt tk p btp g pe a sc has x,[],[]⟩:=by
  unfold qf jJ
  simp only[hbg]
  simp only[Bool.false_eq_true,if_false,Q4,zQ.hvS,ndM,zdH,ZR]
  rw[if_neg (by omega),zoW]
 simp only[hh,hbg]
 have hl:qU ⟨ndM id bt tk p btp g pe a sc has x,[],[]⟩ false [itM a sc g' true rs]=(⟨ndM id bt tk p btp g pe a sc has x,[],[]⟩,false):=by
  have e:Qw (ndM id bt tk p btp g pe a sc has x).ch (itM a sc g' true rs).c=([⟨chM a sc,has,x,noEx,noEx⟩],false):=zFd _ _ _ _
  simp only[qU,e];simp
 rw[hl]
 have hm: ∃es,yo ⟨ndM id bt tk p btp g pe a sc has x,[],[]⟩ 3 p [itM a sc g' true rs]=⟨ndM id bt tk p btp (zC8 id p (zyG id p g g') x rs) pe a sc has x,[],es⟩:=by
  have ho:JL (ndM id bt tk p btp g pe a sc has x).ch (itM a sc g' true rs).c=true:=zDD _ _ _ _
  have hf:findT (itM a sc g' true rs).c.nm (ndM id bt tk p btp g pe a sc has x).ch=(⟨chM a sc,has,x,noEx,noEx⟩,true):=zjP _ _ _ _
  simp only[yo,yZ,ho,hf]
  rw[if_neg (by simp),if_neg (by simp[chM]),if_pos (by simp[itM])]
  have e:(findH p (ndM id bt tk p btp g pe a sc has x).hv).1=⟨p,btp,0,lnM g,pe,0⟩:=by simp only[ndM,zdH]
  have e2:(itM a sc g' true rs).c.nm=emB:=rfl
  have e3:((itM a sc g' true rs).ve,(itM a sc g' true rs).wt,(itM a sc g' true rs).fl)=g':=rfl
  rw[e,e2,e3]
  have e4:(ndM id bt tk p btp g pe a sc has x).id=id:=rfl
  rw[e4,zFC]
  have e5:Q4 ⟨ndM id bt tk p btp g pe a sc has x,[],[]⟩ ⟨p,btp,0,lnM (zyG id p g g'),pe,0⟩=⟨ndM id bt tk p btp (zyG id p g g') pe a sc has x,[],[]⟩:=by
   simp only[Q4,zQ.hvS,ndM]
   rw[zoW]
  rw[e5]
  exact zF5 hx [] []
 obtain⟨es,hm⟩:=hm
 refine⟨es,?_⟩
 simp only[hm]
 rw[if_pos trivial]
 unfold YA J1 jS
 have e6: ∀g,qa (ndM id bt tk p btp g pe a sc has x) p false=[itM a sc g false 0]:=fun g=>by
  have:=zDB id a sc bt tk 0 [p] [⟨p,btp,0,0⟩] p btp 0 g pe 0 has x false
  simpa[ndM]using this
 simp only[e6]
 simp only[zpz,List.nil_append,ndM,zun]
 simp[yg]
theorem zEP {b bB tk a bA:Int} {ch:List Tt} (hp:jb ⟨1,a,b,bA,0,0,0,[]⟩=true):jp ⟨b,bB,tk,[a],0,[],[],ch⟩ ⟨1,a,b,bA,0,0,0,[]⟩=⟨⟨b,bB,tk,[a],0,[],[],ch⟩,[⟨2,b,a,bB,0,bA,0,[]⟩],[]⟩:=by
 have hb:=(zl5.1 hp).2.2.2.2.2.1
 have hl:latB 0 0 bA 0=false:=by rw[ziz];simp only at hb;omega
 unfold jp
 simp only[hp,ztE,j9,hl]
 simp
theorem zFu {id bt tk p btp:Int} {g:jQ} {pe:Bool} {a sc:Int} {has:Bool} {x:Int} (hx:flowB x=true) (ps:List qO) (es:List ZF):
  qP ⟨ndM id bt tk p btp g pe a sc has x,ps,es⟩ p=⟨ndM id bt tk p btp g true a sc has x,ps++[⟨3,id,p,bt,0,btp,0,[itM a sc g true x]⟩],es⟩:=by
 have e1:J0 (ndM id bt tk p btp g pe a sc has x) p=ndM id bt tk p btp g true a sc has x:=by
  simp only[J0,ndM,zQ.hvS,zdH,Yj];rw[zoW]
 have e2:qa (ndM id bt tk p btp g true a sc has x) p true=[itM a sc g true x]:=by
  have:=zDB id a sc bt tk 0 [p] [⟨p,btp,0,0⟩] p btp 0 g true 0 has x true
  simpa[ndM,hx]using this
 unfold qP
 simp only[e1,e2]
 simp only[jS,ndM,zun,zdH]
 simp[zbc,itM]
theorem zEc {id bt tk p btp kd:Int} {ch:List Tt} (hb:1≤btp) (h4: ¬kd=4): ∃es,qf ⟨qW ⟨id,bt,tk,[p],0,[],[],ch⟩ ⟨kd,p,id,btp,0,bt,0,[]⟩,[],[]⟩ kd p btp 0=⟨⟨id,bt,tk,[p],0,[⟨p,btp,0,0⟩],[⟨p,btp,0,lnM noG,false,0⟩],ch⟩,[],es⟩:=by
 have hbg:Z4 (findH p (⟨id,bt,tk,[p],0,[⟨p,btp,0,0⟩],[],ch⟩:zQ).hv) btp 0=true:=rfl
 refine⟨[⟨1,p,yI,btp⟩],?_⟩
 simp only[qW,zQ.seS,zFT p btp hb]
 unfold qf jJ
 simp only[hbg,if_true,h4,if_false,Q4,YW,zQ.hvS,zFN,List.nil_append]
 rfl
theorem zDL {id bt tk p btp a sc:Int} (hb:1≤btp) (hp:jb ⟨2,p,id,btp,0,bt,0,[]⟩=true):
  ∃es,jp ⟨id,bt,tk,[p],0,[],[],[⟨chM a sc,false,0,noEx,noEx⟩]⟩ ⟨2,p,id,btp,0,bt,0,[]⟩=⟨ndM id bt tk p btp noG true a sc false 0,[⟨3,id,p,bt,0,btp,0,[itM a sc noG true 0]⟩],es⟩:=by
 have hl:latB 0 0 btp 0=false:=by rw[ziz];omega
 obtain⟨es,hh⟩:=zEc (id:=id) (bt:=bt) (tk:=tk) (p:=p) (kd:=2) (ch:=[⟨chM a sc,false,0,noEx,noEx⟩]) hb (by omega)
 have hbg: ∀n:zQ,n.hv=[]→Z4 (findH p n.hv) btp 0=true:=fun n e=>by rw[e];rfl
 unfold jp
 simp only[hp,ztE,j9,hl]
 simp only[Bool.not_true,Bool.false_or,ne_eq,not_true_eq_false,decide_false,List.mem_singleton,decide_true,Bool.false_eq_true,if_false,Bool.and_self,if_true]
 rw[if_neg (by simp)]
 simp only[show¬(2:Int)=1 from by omega,decide_false,Bool.not_false,Bool.and_self,if_true]
 try rw[if_neg (by omega)]
 unfold Q9
 rw[if_pos (by simp)]
 unfold ZL
 simp only[hh]
 rw[hbg _ rfl]
 simp only[qU,yo]
 rw[if_neg (by omega)]
 unfold YA
 have hpe:(qg (⟨id,bt,tk,[p],0,[⟨p,btp,0,0⟩],[⟨p,btp,0,lnM noG,false,0⟩],[⟨chM a sc,false,0,noEx,noEx⟩]⟩:zQ).hv).filter (fun q=>false||(true&&decide (q=p)))=[p]:=by simp
 simp only[hpe,yg]
 have:=zFu (id:=id) (bt:=bt) (tk:=tk) (p:=p) (btp:=btp) (g:=noG) (pe:=false) (a:=a) (sc:=sc) (has:=false) (x:=0) rfl [] es
 exact⟨es,this⟩
theorem zE2 {id bt tk p btp a sc:Int} (hb:1≤btp) (hi:nodeB id=true) (hpn:nodeB p=true) (hne:id≠p) (hp:jb ⟨3,p,id,btp,0,bt,0,[itM a sc noG true 0]⟩=true):
  ∃es,jp ⟨id,bt,tk,[p],0,[],[],[]⟩ ⟨3,p,id,btp,0,bt,0,[itM a sc noG true 0]⟩=⟨ndM id bt tk p btp noG true a sc false 0,[⟨4,id,p,bt,0,btp,0,[itM a sc noG false 0]⟩,⟨3,id,p,bt,0,btp,0,[itM a sc noG true 0]⟩],es⟩:=by
 have hl:latB 0 0 btp 0=false:=by rw[ziz];omega
 obtain⟨es,hh⟩:=zEc (id:=id) (bt:=bt) (tk:=tk) (p:=p) (kd:=3) (ch:=[]) hb (by omega)
 have hh':qf ⟨qW ⟨id,bt,tk,[p],0,[],[],[]⟩ ⟨3,p,id,btp,0,bt,0,[itM a sc noG true 0]⟩,[],[]⟩ 3 p btp 0=⟨⟨id,bt,tk,[p],0,[⟨p,btp,0,0⟩],[⟨p,btp,0,lnM noG,false,0⟩],[]⟩,[],es⟩:=hh
 have hbg: ∀n:zQ,n.hv=[]→Z4 (findH p n.hv) btp 0=true:=fun n e=>by rw[e];rfl
 unfold jp
 simp only[hp,ztE,j9,hl]
 simp only[Bool.not_true,Bool.false_or,ne_eq,not_true_eq_false,decide_false,List.mem_singleton,decide_true,Bool.false_eq_true,if_false,Bool.and_self,if_true]
 rw[if_neg (by simp)]
 simp only[show¬(3:Int)=1 from by omega,decide_false,Bool.not_false,Bool.and_self,if_true]
 try rw[if_neg (by omega)]
 unfold Q9
 rw[if_pos (by simp)]
 unfold ZL
 simp only[hh']
 rw[hbg _ rfl]
 have hlr: ∃es',qU ⟨⟨id,bt,tk,[p],0,[⟨p,btp,0,0⟩],[⟨p,btp,0,lnM noG,false,0⟩],[]⟩,[],es⟩ false [itM a sc noG true 0]=(⟨ndM id bt tk p btp noG false a sc false 0,[],es'⟩,true):=by
  have e:Qw ([]:List Tt) (itM a sc noG true 0).c=([⟨chM a sc,false,0,noEx,noEx⟩],true):=zF2 a sc
  refine⟨es++[⟨5,0,emB,1⟩],?_⟩
  simp only[qU,e,if_true,jA,zQ.chS,zQ.hvS]
  rfl
 obtain⟨es1,hlr⟩:=hlr
 simp only[hlr]
 have hmm: ∃es',yo ⟨ndM id bt tk p btp noG false a sc false 0,[],es1⟩ 3 p [itM a sc noG true 0]=⟨ndM id bt tk p btp noG false a sc false 0,[],es'⟩:=by
  have ho:JL (ndM id bt tk p btp noG false a sc false 0).ch (itM a sc noG true 0).c=true:=zDD _ _ _ _
  have hf:findT (itM a sc noG true 0).c.nm (ndM id bt tk p btp noG false a sc false 0).ch=(⟨chM a sc,false,0,noEx,noEx⟩,true):=zjP _ _ _ _
  simp only[yo,yZ,ho,hf]
  rw[if_neg (by simp),if_neg (by simp[chM]),if_pos (by simp[itM])]
  have e:(findH p (ndM id bt tk p btp noG false a sc false 0).hv).1=⟨p,btp,0,lnM noG,false,0⟩:=by simp only[ndM,zdH]
  have e2:(itM a sc noG true 0).c.nm=emB:=rfl
  have e3:((itM a sc noG true 0).ve,(itM a sc noG true 0).wt,(itM a sc noG true 0).fl)=noG:=rfl
  rw[e,e2,e3]
  have e4:(ndM id bt tk p btp noG false a sc false 0).id=id:=rfl
  have e6:zyG id p noG noG=noG:=by unfold zyG;split<;>rfl
  rw[e4,zFC,e6]
  have e5:Q4 ⟨ndM id bt tk p btp noG false a sc false 0,[],es1⟩ ⟨p,btp,0,lnM noG,false,0⟩=⟨ndM id bt tk p btp noG false a sc false 0,[],es1⟩:=by
   simp only[Q4,zQ.hvS,ndM]
   rw[zoW]
  rw[e5]
  obtain⟨es',hb⟩:=zF5 (id:=id) (bt:=bt) (tk:=tk) (p:=p) (btp:=btp) (g:=noG) (g':=noG) (pe:=false) (a:=a) (sc:=sc) (has:=false) (hr:=true) (x:=0) (rs:=0) rfl [] es1
  refine⟨es',?_⟩
  rw[hb]
  have e7:zC8 id p noG 0 0=noG:=by
   have hfr:Qd 0 0 0 id p=true:=zla.2 ⟨hi,hpn,hne,.inl ⟨rfl,rfl,rfl⟩⟩
   have hfr2:Qd 0 0 0 p id=true:=zla.2 ⟨hpn,hi,Ne.symm hne,.inl ⟨rfl,rfl,rfl⟩⟩
   have he:je id p 0 0 0 0 0=(0,0,0):=by
    unfold je;rw[hfr];simp[zDJ,flowB]
   have hm:Yu 0 0 0 p id ((0 - 0:Int).tdiv 2) id=((0,0,0),0):=by
    unfold Yu;rw[hfr2];simp[flowB]
   unfold zC8 zbq
   simp only[he]
   simp at hm ⊢
   simp[hm]
  rw[e7]
 obtain⟨es2,hmm⟩:=hmm
 simp only[hmm]
 rw[if_pos trivial]
 have e6:qa (ndM id bt tk p btp noG false a sc false 0) p false=[itM a sc noG false 0]:=by
  have:=zDB id a sc bt tk 0 [p] [⟨p,btp,0,0⟩] p btp 0 noG false 0 false 0 false
  simpa[ndM]using this
 have e7:J1 ⟨ndM id bt tk p btp noG false a sc false 0,[],es2⟩ p btp 0=⟨ndM id bt tk p btp noG false a sc false 0,[⟨4,id,p,bt,0,btp,0,[itM a sc noG false 0]⟩],es2⟩:=by
  unfold J1 jS
  simp only[e6]
  simp only[zpz,List.nil_append,ndM,zun]
 rw[e7]
 unfold YA
 have hpe:(qg (ndM id bt tk p btp noG false a sc false 0).hv).filter (fun q=>true||(true&&decide (q=p)))=[p]:=by simp[ndM]
 simp only[hpe,yg]
 have:=zFu (id:=id) (bt:=bt) (tk:=tk) (p:=p) (btp:=btp) (g:=noG) (pe:=false) (a:=a) (sc:=sc) (has:=false) (x:=0) rfl [⟨4,id,p,bt,0,btp,0,[itM a sc noG false 0]⟩] es2
 exact⟨es2,this⟩
theorem zF8 (id a sc:Int) (has:Bool) (x:Int):[(⟨chM a sc,has,x,noEx,noEx⟩:Tt)].map (Za id)=[⟨chM a sc,has,x,noEx,noEx⟩]:=by simp[Za,isX,chM]
theorem zFe (p:Int):yR [p] 0=(p,0,true):=by simp[yR]
theorem zEZ {id bt tk p:Int} {a sc:Int}:tickW ⟨id,bt,tk,[p],0,[],[],[⟨chM a sc,false,0,noEx,noEx⟩]⟩=⟨⟨id,bt,zad tk,[p],0,[],[],[⟨chM a sc,false,0,noEx,noEx⟩]⟩,[⟨1,id,p,bt,0,0,0,[]⟩],[]⟩:=by
 unfold tickW
 simp only[zFe,tickN,zF8,zQ.tnS]
 rfl
theorem zGl {id bt tk p btp:Int} {g:jQ} {a sc:Int} {has:Bool} {x:Int} (hx:flowB x=true):tickW (ndM id bt tk p btp g false a sc has x)=⟨ndM id bt (zad tk) p btp g true a sc has x,[⟨3,id,p,bt,0,btp,0,[itM a sc g true x]⟩],[]⟩:=by
 have ht:yO ⟨p,btp,0,lnM g,false,0⟩=(⟨p,btp,0,lnM g,true,0⟩,1):=rfl
 unfold tickW
 simp only[ndM,zFe,tickN,zF8,zQ.tnS,zdH,ht]
 simp only[Bool.not_true,Bool.false_eq_true,if_false,if_true,zQ.hvS,zoW]
 have:=zFu (id:=id) (bt:=bt) (tk:=zad tk) (p:=p) (btp:=btp) (g:=g) (pe:=true) (a:=a) (sc:=sc) (has:=has) (x:=x) hx [] []
 exact this
theorem zFJ {id p:Int} (hi:nodeB id=true) (hpn:nodeB p=true) (hne:id≠p):zC8 id p noG 0 0=noG:=by
 have hfr:Qd 0 0 0 id p=true:=zla.2 ⟨hi,hpn,hne,.inl ⟨rfl,rfl,rfl⟩⟩
 have hfr2:Qd 0 0 0 p id=true:=zla.2 ⟨hpn,hi,Ne.symm hne,.inl ⟨rfl,rfl,rfl⟩⟩
 have he:je id p 0 0 0 0 0=(0,0,0):=by
  unfold je;rw[hfr];simp[zDJ,flowB]
 have hm:Yu 0 0 0 p id ((0 - 0:Int).tdiv 2) id=((0,0,0),0):=by
  unfold Yu;rw[hfr2];simp[flowB]
 unfold zC8 zbq
 simp only[he]
 simp at hm ⊢
 simp[hm]
theorem zBp (id p:Int):zyG id p noG noG=noG:=by unfold zyG;split<;>rfl
theorem zFv (h:Two a b bA bB sc):zy (m0 a b bA sc):=by
 have hi:=qd.1 h.na
 refine⟨h.ha,by simp[m0],zU.2 ⟨h.na,by simp[m0],by simp[m0],.inl rfl,?_,by simp[m0]⟩,ZD.2 ⟨by simp[m0,SrtS],by simp[m0],h.na⟩,q8.2 ⟨by simp[m0,SrtH],by simp[m0],h.na⟩,zH.2 ⟨hi.1,hi.2,by simp[m0],by simp[m0,Qb,recT],?_,?_⟩⟩
 ·intro v hv;rw[show(m0 a b bA sc).want=[b]from rfl,List.mem_singleton]at hv;subst hv;exact⟨h.nb,Ne.symm h.ne⟩
 ·intro x hx;rw[show(m0 a b bA sc).ch=[⟨chM a sc,false,0,noEx,noEx⟩]from rfl,List.mem_singleton]at hx;subst hx;exact zFV h
 ·intro x hx;rw[show(m0 a b bA sc).ch=[⟨chM a sc,false,0,noEx,noEx⟩]from rfl,List.mem_singleton]at hx;subst hx;exact zqO _
theorem zEW (h:Two a b bA bB sc):zy (n0 a b bB):=by
 have hi:=qd.1 h.nb
 refine⟨h.hb,by simp[n0],zU.2 ⟨h.nb,by simp[n0],by simp[n0],.inl rfl,?_,by simp[n0]⟩,ZD.2 ⟨by simp[n0,SrtS],by simp[n0],h.nb⟩,q8.2 ⟨by simp[n0,SrtH],by simp[n0],h.nb⟩,zH.2 ⟨hi.1,hi.2,by simp[n0],by simp[n0,Qb,recT],by simp[n0],by simp[n0]⟩⟩
 intro v hv;rw[show(n0 a b bB).want=[a]from rfl,List.mem_singleton]at hv;subst hv;exact⟨h.na,h.ne⟩
theorem zGE (h:Two a b bA bB sc):zEq (m0 a b bA sc) (n0 a b bB)=(ndM a bA 1 b bB noG false a sc false 0,ndM b bB 0 a bA noG false a sc false 0,true)∧zy (ndM a bA 1 b bB noG false a sc false 0)∧zy (ndM b bB 0 a bA noG false a sc false 0):=by
 have fm:=zFv h
 have fn:=zEW h
 have ht:tickW (m0 a b bA sc)=⟨⟨a,bA,1,[b],0,[],[],[⟨chM a sc,false,0,noEx,noEx⟩]⟩,[⟨1,a,b,bA,0,0,0,[]⟩],[]⟩:=zEZ
 have k1:=(zl3 fm).1
 have p1:=zvr fm
 rw[ht]at k1 p1
 have q1:=(p1 _ (List.mem_singleton.2 rfl)).1
 have r2:jp (n0 a b bB) ⟨1,a,b,bA,0,0,0,[]⟩=⟨n0 a b bB,[⟨2,b,a,bB,0,bA,0,[]⟩],[]⟩:=zEP q1
 have p2:=zwO ⟨1,a,b,bA,0,0,0,[]⟩ fn
 rw[r2]at p2
 have q2:=(p2 _ (List.mem_singleton.2 rfl)).1
 obtain⟨e3,r3⟩:=zDL (tk:=1) (a:=a) (sc:=sc) h.hb.1 q2
 have k3:=(zk3 ⟨2,b,a,bB,0,bA,0,[]⟩ k1).1
 have p3:=zwO ⟨2,b,a,bB,0,bA,0,[]⟩ k1
 rw[r3]at k3 p3
 have q3:=(p3 _ (List.mem_singleton.2 rfl)).1
 obtain⟨e4,r4⟩:=zE2 (tk:=0) h.ha.1 h.nb h.na (Ne.symm h.ne) q3
 have r4':jp (n0 a b bB) ⟨3,a,b,bA,0,bB,0,[itM a sc noG true 0]⟩=_:=r4
 have k4:=(zk3 ⟨3,a,b,bA,0,bB,0,[itM a sc noG true 0]⟩ fn).1
 have p4:=zwO ⟨3,a,b,bA,0,bB,0,[itM a sc noG true 0]⟩ fn
 rw[r4']at k4 p4
 have q4:=(p4 _ (List.mem_cons_self ..)).1
 have q4':=(p4 _ (List.mem_cons_of_mem _ (List.mem_singleton.2 rfl))).1
 have r5:=zC0 (tk:=1) (g:=noG) (pe:=true) (has:=false) (x:=0) h.hb.1 q4
 rw[zBp]at r5
 have k5:=(zk3 ⟨4,b,a,bB,0,bA,0,[itM a sc noG false 0]⟩ k3).1
 rw[r5]at k5
 obtain⟨e6,r6⟩:=zD9 (tk:=1) (g:=noG) (pe:=false) (has:=false) (x:=0) h.hb.1 rfl q4'
 rw[zBp,zFJ h.na h.nb h.ne]at r6
 have k6:=(zk3 ⟨3,b,a,bB,0,bA,0,[itM a sc noG true 0]⟩ k5).1
 have p6:=zwO ⟨3,b,a,bB,0,bA,0,[itM a sc noG true 0]⟩ k5
 rw[r6]at k6 p6
 have q6:=(p6 _ (List.mem_singleton.2 rfl)).1
 have r7:=zC0 (tk:=0) (g:=noG) (pe:=true) (has:=false) (x:=0) h.ha.1 q6
 rw[zBp]at r7
 have k7:=(zk3 ⟨4,a,b,bA,0,bB,0,[itM a sc noG false 0]⟩ k4).1
 rw[r7]at k7
 refine⟨?_,k6,k7⟩
 have hne:=h.ne
 have i0:(n0 a b bB).id=b:=rfl
 have i1: ∀bt tk p btp g pe has x,(ndM b bt tk p btp g pe a sc has x).id=b:=fun _ _ _ _ _ _ _ _=>rfl
 unfold zEq
 rw[ht]
 simp only[exG,r2,r3,r4',r5,r6,r7,i0,i1,if_true,hne,if_false,List.nil_append,List.append_nil,List.singleton_append,List.cons_append]
theorem zEb {X Y:Int} (hX:flowB X=true) (hY:flowB Y=true):(-2147483647≤amZ X Y∧amZ X Y≤2147483647)∧(-1≤X - Y - 2*amZ X Y∧X - Y - 2*amZ X Y≤1)∧(-2147483647≤X - amZ X Y∧X - amZ X Y≤2147483647)∧(-2147483647≤Y+amZ X Y∧Y+amZ X Y≤2147483647):=by
 have h1:=ZQ hX
 have h2:=ZQ hY
 unfold amZ
 rcases Int.lt_or_le (X - Y) 0 with hn|hn
 ·have e:(X - Y).tdiv 2= -((Y - X) / 2):=by
   rw[show X - Y= -(Y - X)by omega,Int.neg_tdiv,Int.tdiv_eq_ediv_of_nonneg (by omega)]
  rw[e];omega
 ·rw[Int.tdiv_eq_ediv_of_nonneg hn];omega
theorem zxu {x:Int} (h: -2147483647≤x∧x≤2147483647):flowB x=true:=by simp[flowB,h.1,h.2]
theorem zFR {X Y:Int} (ha:nodeB a=true) (hb:nodeB b=true) (hne:a≠b) (hX:flowB X=true) (hY:flowB Y=true):zC8 b a noG Y X=g2 a b X Y:=by
 have hfr:Qd 0 0 0 b a=true:=zla.2 ⟨hb,ha,Ne.symm hne,.inl ⟨rfl,rfl,rfl⟩⟩
 have hfr2:Qd 0 0 0 a b=true:=zla.2 ⟨ha,hb,hne,.inl ⟨rfl,rfl,rfl⟩⟩
 have he:je b a 0 0 0 Y X=(Y,X,0):=by
  unfold je;rw[hfr];simp[zDJ,hX,hY]
 obtain⟨h1,_⟩:=zEb hX hY
 have hfa:flowB (amZ X Y)=true:=zxu h1
 have hfm:flowB (zaC 0 a b (amZ X Y))=true:=by unfold zaC;split<;>exact zxu (by omega)
 unfold zC8 zbq g2
 simp only[he]
 rw[if_neg (show¬(0:Int)≠0 by simp)]
 have ham:(X - Y).tdiv 2=amZ X Y:=rfl
 rw[ham]
 by_cases hz:amZ X Y=0
 ·have hm:Yu 0 0 0 a b (amZ X Y) b=((0,0,0),0):=by
   unfold Yu;rw[hfr2,hfa,if_neg (by simp),if_neg (by simp),if_pos hz]
  rw[hz]at hm;simp[hm,hz]
 ·have hm:Yu 0 0 0 a b (amZ X Y) b=((1,b,zaC 0 a b (amZ X Y)),0):=by
   unfold Yu;rw[hfr2,hfa,hfm,if_neg (by simp),if_neg (by simp),if_neg hz,if_neg (by simp)];rfl
  simp only[hm,hz];simp[hz]
theorem zFW {X Y:Int} (ha:nodeB a=true) (hb:nodeB b=true) (hne:a≠b) (hX:flowB X=true) (hY:flowB Y=true):zyG a b noG (g2 a b X Y)=g2 a b X Y:=by
 obtain⟨h1,_⟩:=zEb hX hY
 unfold zyG g2
 by_cases hz:amZ X Y=0
 ·simp[hz]
 ·simp only[hz,if_false]
  have hfm:flowB (zaC 0 a b (amZ X Y))=true:=by unfold zaC;split<;>exact zxu (by omega)
  have hfr:Qd 1 b (zaC 0 a b (amZ X Y)) a b=true:=zla.2 ⟨ha,hb,hne,.inr ⟨by omega,by omega,.inr rfl,hfm⟩⟩
  have hn:newR 1 b 0 0=true:=by rw[zeE];omega
  rw[hfr,hn];rfl
theorem zGy (h:Two a b bA bB sc) {tk X Y:Int} (hX:flowB X=true) (hY:flowB Y=true) (fm:zy (ndM a bA tk b bB noG false a sc true X)) (fn:zy (ndM b bB 0 a bA noG false a sc true Y)):
  zEq (ndM a bA tk b bB noG false a sc true X) (ndM b bB 0 a bA noG false a sc true Y)=(ndM a bA (zad tk) b bB (g2 a b X Y) false a sc true X,ndM b bB 0 a bA (g2 a b X Y) false a sc true Y,true)∧zy (ndM a bA (zad tk) b bB (g2 a b X Y) false a sc true X)∧zy (ndM b bB 0 a bA (g2 a b X Y) false a sc true Y):=by
 have ht:=zGl (id:=a) (bt:=bA) (tk:=tk) (p:=b) (btp:=bB) (g:=noG) (a:=a) (sc:=sc) (has:=true) (x:=X) hX
 have k1:=(zl3 fm).1
 have p1:=zvr fm
 rw[ht]at k1 p1
 have q1:=(p1 _ (List.mem_singleton.2 rfl)).1
 obtain⟨e2,r2⟩:=zD9 (tk:=0) (g:=noG) (pe:=false) (has:=true) (x:=Y) h.ha.1 hY q1
 rw[zBp,zFR h.na h.nb h.ne hX hY]at r2
 have k2:=(zk3 ⟨3,a,b,bA,0,bB,0,[itM a sc noG true X]⟩ fn).1
 have p2:=zwO ⟨3,a,b,bA,0,bB,0,[itM a sc noG true X]⟩ fn
 rw[r2]at k2 p2
 have q2:=(p2 _ (List.mem_singleton.2 rfl)).1
 have r3:=zC0 (tk:=zad tk) (g:=noG) (pe:=true) (has:=true) (x:=X) h.hb.1 q2
 rw[zFW h.na h.nb h.ne hX hY]at r3
 have k3:=(zk3 ⟨4,b,a,bB,0,bA,0,[itM a sc (g2 a b X Y) false 0]⟩ k1).1
 rw[r3]at k3
 refine⟨?_,k3,k2⟩
 have hne:=h.ne
 have i1: ∀bt tk p btp g pe has x,(ndM b bt tk p btp g pe a sc has x).id=b:=fun _ _ _ _ _ _ _ _=>rfl
 unfold zEq
 rw[ht]
 simp only[exG,r2,r3,i1,if_true,hne,if_false,List.nil_append,List.append_nil]
theorem zGc {id bt tk p btp:Int} {g:jQ} {pe:Bool} {has:Bool} {x:Int} (hx:flowB x=true) (hk:zy (ndM id bt tk p btp g pe a sc has x)):estN (ndM id bt tk p btp g pe a sc has x) emB=zeu (wr (x - outR g.1 g.2.1 g.2.2 id p)):=by
 have hw:wr x=x:=zlU (by have:=ZQ hx;omega)
 have hf:findT emB (ndM id bt tk p btp g pe a sc has x).ch=(⟨chM a sc,has,x,noEx,noEx⟩,true):=zjP _ _ _ _
 unfold estN
 rw[hf]
 simp only[Bool.not_true,Bool.false_eq_true,if_false]
 rw[if_neg (by simp[chM,QQ])]
 show zxY id x [⟨p,btp,0,lnM g,pe,0⟩] emB=_
 unfold zxY lnM
 cases hz:ZK g
 ·have e:ZH id emB [⟨p,btp,0,(if false=true then []else [⟨emB,g.1,g.2.1,g.2.2⟩]:List Ln),pe,0⟩]=[(p,outR g.1 g.2.1 g.2.2 id p)]:=by simp[ZH,zbe]
  rw[e,zga _ _ _ hw]
  simp[zm9]
 ·have e:ZH id emB [⟨p,btp,0,(if true=true then []else [⟨emB,g.1,g.2.1,g.2.2⟩]:List Ln),pe,0⟩]=[]:=by simp[ZH,zbe]
  rw[e,zfr,zDX.1 hz,zDJ,Int.sub_zero,hw]
theorem zFZ {X Y:Int} (ha:nodeB a=true) (hb:nodeB b=true) (hne:a≠b) (hX:flowB X=true) (hY:flowB Y=true):outR (g2 a b X Y).1 (g2 a b X Y).2.1 (g2 a b X Y).2.2 a b=amZ X Y∧outR (g2 a b X Y).1 (g2 a b X Y).2.1 (g2 a b X Y).2.2 b a= - amZ X Y:=by
 obtain⟨h1,_⟩:=zEb hX hY
 unfold g2
 by_cases hz:amZ X Y=0
 ·simp[hz,zDJ]
 ·simp only[hz,if_false]
  have hfm:flowB (zaC 0 a b (amZ X Y))=true:=by unfold zaC;split<;>exact zxu (by omega)
  have hfr:Qd 1 b (zaC 0 a b (amZ X Y)) a b=true:=zla.2 ⟨ha,hb,hne,.inr ⟨by omega,by omega,.inr rfl,hfm⟩⟩
  have hfr2:Qd 1 b (zaC 0 a b (amZ X Y)) b a=true:=zla.2 ⟨hb,ha,Ne.symm hne,.inr ⟨by omega,by omega,.inl rfl,hfm⟩⟩
  unfold outR
  rw[hfr,hfr2]
  simp only[if_true]
  unfold zaC
  constructor
  ·repeat' split
   all_goals omega
  ·repeat' split
   all_goals omega
theorem zF4 (h:Two a b bA bB sc) {tk X Y:Int} (hX:flowB X=true) (hY:flowB Y=true) (fm:zy (ndM a bA tk b bB (g2 a b X Y) false a sc true X)) (fn:zy (ndM b bB 0 a bA (g2 a b X Y) false a sc true Y)):
  estN (ndM a bA tk b bB (g2 a b X Y) false a sc true X) emB=(X - amZ X Y,0)∧estN (ndM b bB 0 a bA (g2 a b X Y) false a sc true Y) emB=(Y+amZ X Y,0):=by
 obtain⟨h1,h2,h3,h4⟩:=zEb hX hY
 obtain⟨o1,o2⟩:=zFZ h.na h.nb h.ne hX hY
 rw[zGc hX fm,zGc hY fn,o1,o2]
 rw[zlU (by omega),zlU (by omega)]
 constructor
 ·unfold zeu;rw[if_pos (zxu h3)]
 ·unfold zeu;rw[show Y - -amZ X Y=Y+amZ X Y by omega,if_pos (zxu h4)]
end
end
end Go.Proofs.YtbcbnfiedgnfpaaGreat
namespace Go.Proofs.YtbcbnfiedgnfpaaGreat
open Go.Dl
attribute [local irreducible] DW yE zY zA zu zky
attribute [local push_cast] zZ qF qC zN zM zD zE qH qE qz Go.Dl.qY yT qy List.mem_cons List.not_mem_nil or_false forall_eq false_implies implies_true
def Few (w:Wk):Prop:=w.ps.length≤100∧w.es.length≤1000
theorem zfK: ∀ {l:List Int} {w:Wk},zy w.n→(∀p∈l,hasP p w.n.hv=true)→(yg w l).ps.length≤w.ps.length+l.length∧(yg w l).es.length≤w.es.length+8*l.length
 |[],w,_,_=>⟨by simp[yg],by simp[yg]⟩
 |p::l,w,hF,h=>by
  have hp:=h p (List.mem_cons_self ..)
  have h1:=Zd hF hp
  have st:=jY hF hp
  have h2:=zfK (l:=l) (w:=qP w p) st.k (fun q hq=>by rw[st.has];exact h q (List.mem_cons_of_mem _ hq))
  simp only[yg,List.length_cons];omega
theorem zti {w:Wk} {p:qO} (h:zy w.n) (hp:Jg w.n p) (hl:p.its.length≤8) (hw:w.ps=[]∧w.es=[]):Few (ZL w p):=by
 obtain⟨k1,k2,k3,k4⟩:=Jk (kd:=p.kd) h hp.fr hp.ne hp.bt hp.lf
 have e0:=zjF w p.kd p.fr p.bt p.lf
 have s1:=Yx (b:=false) k1 fun x hx=>y8 (hp.its x hx)
 have hh:hasP p.fr (qU (qf w p.kd p.fr p.bt p.lf) false p.its).1.n.hv=true:=by rw[s1.has];exact k2
 have s2:=JQ (kd:=p.kd) s1.k hh hp.its
 have e1:=zc4 (l:=p.its) (w:=qf w p.kd p.fr p.bt p.lf) (b:=false)
 have e2:=zfl (l:=p.its) (w:=(qU (qf w p.kd p.fr p.bt p.lf) false p.its).1) (kd:=p.kd) (fr:=p.fr)
 have f1:=ziS p.its (qf w p.kd p.fr p.bt p.lf) false
 have f2:=zng p.its (qU (qf w p.kd p.fr p.bt p.lf) false p.its).1 p.kd p.fr
 unfold ZL YA
 simp only
 generalize hw3:yo (qU (qf w p.kd p.fr p.bt p.lf) false p.its).1 p.kd p.fr p.its=w3 at*
 have g1:w3.ps=[]:=by rw[e2.1,e1.1,e0.1,hw.1]
 have g2:w3.es.length≤17:=by have:=e0.2;rw[hw.2]at this;simp only[List.length_nil]at this;omega
 have e: ∀w3:Wk,(if p.kd=3 then J1 w3 p.fr p.bt p.lf else w3).n=w3.n:=fun w3=>by split<;>rfl
 have g3:(if p.kd=3 then J1 w3 p.fr p.bt p.lf else w3).ps.length≤1∧(if p.kd=3 then J1 w3 p.fr p.bt p.lf else w3).es.length≤17:=by
  split
  ·simp[J1,g1,g2]
  ·simp[g1,g2]
 have hhl:=jW s2.k.hv
 have a:=zfK (w:=(if p.kd=3 then J1 w3 p.fr p.bt p.lf else w3)) (l:=(qg (if p.kd=3 then J1 w3 p.fr p.bt p.lf else w3).n.hv).filter fun q=>(qU (qf w p.kd p.fr p.bt p.lf) false p.its).2||(Z4 (findH p.fr w.n.hv) p.bt p.lf&&decide (q=p.fr))) (by rw[e];exact s2.k) (fun q hq=>yP.2 (List.mem_filter.1 hq).1)
 have b:=List.length_filter_le (fun q=>(qU (qf w p.kd p.fr p.bt p.lf) false p.its).2||(Z4 (findH p.fr w.n.hv) p.bt p.lf&&decide (q=p.fr))) (qg (if p.kd=3 then J1 w3 p.fr p.bt p.lf else w3).n.hv)
 have c:(qg (if p.kd=3 then J1 w3 p.fr p.bt p.lf else w3).n.hv).length≤16:=by rw[e];unfold qg;rw[List.length_map];exact hhl
 constructor<;>omega
theorem JD (n:zQ):Few ⟨n,[],[]⟩:=⟨by simp,by simp⟩
theorem zuV {n:zQ} (p:qO) (h:zy n):Few (jp n p):=by
 unfold jp
 simp only
 split
 ·exact⟨by simp[zem],by simp[zem]⟩
 ·rename_i hc
  simp only[Bool.or_eq_true,Bool.not_eq_true',decide_eq_true_eq,decide_eq_false_iff_not,not_or,Bool.not_eq_false,ne_eq,Decidable.not_not]at hc
  have hp:=Qc hc.1.1 hc.1.2
  repeat' split
  ·exact⟨by simp,by simp⟩
  ·unfold Q9
   repeat' split
   ·exact zti (w:=⟨qW n p,[],[]⟩) (h.see hp) ⟨hp.fr,hp.ne,hp.bt,hp.lf,hp.its⟩ (zfw hc.1.1).1 ⟨rfl,rfl⟩
   ·exact⟨by simp,by simp⟩
   ·exact⟨by simp[zem],by simp[zem]⟩
  ·exact⟨by simp[zem],by simp[zem]⟩
theorem ztQ {n:zQ} (h:zy n):Few (tickW n):=by
 have hw:=Qa h.want
 have hm:zy ((tickN n).tnS (yR n.want n.tn).2.1):=h.tickN.tnS hw.1
 unfold tickW
 simp only
 split
 ·exact JD _
 ·rename_i hv
  split
  ·exact⟨by simp,by simp⟩
  ·rename_i hf
   have hp:hasP (yR n.want n.tn).1 n.hv=true:=by simpa[hasP]using hf
   obtain⟨h1,h2,h3⟩:=h.find hp
   split
   ·rename_i ht
    rcases Zx h1 with⟨_,g1,g2,_⟩|g
    ·have hk:zy (((tickN n).tnS (yR n.want n.tn).2.1).hvS (qu n.hv (yO (findH (yR n.want n.tn).1 n.hv).1).1)):=hm.keep g1
     have:=Zd (w:=⟨_,[],[]⟩) hk (Zh.2 (.inl (by rw[g2,h2])))
     simp only[List.length_nil]at this
     exact⟨Nat.le_trans (Nat.le_of_eq this.1) (by omega),Nat.le_trans this.2 (by omega)⟩
    ·rw[g]at ht;cases ht
   ·exact⟨by simp,by simp⟩
theorem zAg:zep Tryz.prog 38 [some (.int .i64),some (.int .i64),some .str,some (.int .i64)]:=Jn (ks:=[.int .i64,.int .i64,.str,.int .i64]) 3 (by decide) (by kernel_rfl) (by kernel_rfl) (by kernel_rfl)
attribute [push_cast] zAg
theorem zzI:zu Tryz.prog 22 [gI 2,gI 7] (jv (⟨2,7,0,[],0,[],[],[]⟩:zQ)):=zq8 2 7
theorem zbf {n:zQ} (h:zaj n=true):zy n:=(jV.1 h).1
theorem zwQ:zu Tryz.prog 23 [jv (⟨2,7,0,[],0,[],[],[]⟩:zQ),gI 5] (rWE (⟨(⟨2,7,0,[5],0,[],[],[]⟩:zQ),[],[]⟩,0)):=by
 have h:=zfa (⟨2,7,0,[],0,[],[],[]⟩:zQ) 5 (zbf (by kernel_rfl))
 rwa[show zd0 (⟨2,7,0,[],0,[],[],[]⟩:zQ) 5=(⟨(⟨2,7,0,[5],0,[],[],[]⟩:zQ),[],[]⟩,0)by kernel_rfl]at h
theorem zvI:zu Tryz.prog 55 [jv (⟨2,7,0,[5],0,[],[],[]⟩:zQ)] (rW ⟨(⟨2,7,1,[5],0,[],[],[]⟩:zQ),[⟨1,2,5,7,0,0,0,[]⟩],[]⟩):=by
 have h:=zfz (⟨2,7,0,[5],0,[],[],[]⟩:zQ) (zbf (by kernel_rfl))
 rwa[show tickW (⟨2,7,0,[5],0,[],[],[]⟩:zQ)=⟨(⟨2,7,1,[5],0,[],[],[]⟩:zQ),[⟨1,2,5,7,0,0,0,[]⟩],[]⟩by kernel_rfl]at h
theorem zv6:zu Tryz.prog 15 [jv (⟨2,7,1,[5],0,[],[],[]⟩:zQ),ZJ (⟨2,5,2,3,0,7,0,[]⟩:qO)] (rW ⟨(⟨2,7,1,[5],0,[⟨5,3,0,0⟩],[⟨5,3,0,[],true,0⟩],[]⟩:zQ),[⟨3,2,5,7,0,3,0,[]⟩],[⟨1,5,yI,3⟩]⟩):=by
 have h:=zbm (⟨2,7,1,[5],0,[],[],[]⟩:zQ) (⟨2,5,2,3,0,7,0,[]⟩:qO) (zbf (by kernel_rfl)) ⟨by simp,by simp⟩
 rwa[show jp (⟨2,7,1,[5],0,[],[],[]⟩:zQ) (⟨2,5,2,3,0,7,0,[]⟩:qO)=⟨(⟨2,7,1,[5],0,[⟨5,3,0,0⟩],[⟨5,3,0,[],true,0⟩],[]⟩:zQ),[⟨3,2,5,7,0,3,0,[]⟩],[⟨1,5,yI,3⟩]⟩by kernel_rfl]at h
theorem zzp:zu Tryz.prog 24 [jv (⟨2,7,1,[5],0,[⟨5,3,0,0⟩],[⟨5,3,0,[],true,0⟩],[]⟩:zQ),gS (⟨#[109]⟩:ByteArray),gI 1,gI 1] (rWE (⟨(⟨2,7,1,[5],0,[⟨5,3,0,0⟩],[⟨5,3,0,[],true,0⟩],[⟨(⟨(⟨#[109]⟩:ByteArray),1,2,true,1,1⟩:Ch),false,0,noEx,noEx⟩]⟩:zQ),[⟨3,2,5,7,0,3,0,[⟨(⟨(⟨#[109]⟩:ByteArray),1,2,true,1,1⟩:Ch),0,0,0,true,0,noEx,noEx⟩]⟩],[⟨5,0,(⟨#[109]⟩:ByteArray),1⟩]⟩,0)):=by
 have h:=zbW (⟨2,7,1,[5],0,[⟨5,3,0,0⟩],[⟨5,3,0,[],true,0⟩],[]⟩:zQ) (⟨#[109]⟩:ByteArray) 1 1 (zbf (by kernel_rfl))
 rwa[show zi3 (⟨2,7,1,[5],0,[⟨5,3,0,0⟩],[⟨5,3,0,[],true,0⟩],[]⟩:zQ) (⟨#[109]⟩:ByteArray) 1 1=(⟨(⟨2,7,1,[5],0,[⟨5,3,0,0⟩],[⟨5,3,0,[],true,0⟩],[⟨(⟨(⟨#[109]⟩:ByteArray),1,2,true,1,1⟩:Ch),false,0,noEx,noEx⟩]⟩:zQ),[⟨3,2,5,7,0,3,0,[⟨(⟨(⟨#[109]⟩:ByteArray),1,2,true,1,1⟩:Ch),0,0,0,true,0,noEx,noEx⟩]⟩],[⟨5,0,(⟨#[109]⟩:ByteArray),1⟩]⟩,0)by kernel_rfl]at h
theorem zyK:zu Tryz.prog 26 [jv (⟨2,7,1,[5],0,[⟨5,3,0,0⟩],[⟨5,3,0,[],true,0⟩],[⟨(⟨(⟨#[109]⟩:ByteArray),1,2,true,1,1⟩:Ch),false,0,noEx,noEx⟩]⟩:zQ),gS (⟨#[109]⟩:ByteArray),gI 8] (rNE ((⟨2,7,1,[5],0,[⟨5,3,0,0⟩],[⟨5,3,0,[],true,0⟩],[⟨(⟨(⟨#[109]⟩:ByteArray),1,2,true,1,1⟩:Ch),true,8,noEx,noEx⟩]⟩:zQ),0)):=by
 have h:=zhx (⟨2,7,1,[5],0,[⟨5,3,0,0⟩],[⟨5,3,0,[],true,0⟩],[⟨(⟨(⟨#[109]⟩:ByteArray),1,2,true,1,1⟩:Ch),false,0,noEx,noEx⟩]⟩:zQ) (⟨#[109]⟩:ByteArray) 8 (zbf (by kernel_rfl))
 rwa[show zer (⟨2,7,1,[5],0,[⟨5,3,0,0⟩],[⟨5,3,0,[],true,0⟩],[⟨(⟨(⟨#[109]⟩:ByteArray),1,2,true,1,1⟩:Ch),false,0,noEx,noEx⟩]⟩:zQ) (⟨#[109]⟩:ByteArray) 8=((⟨2,7,1,[5],0,[⟨5,3,0,0⟩],[⟨5,3,0,[],true,0⟩],[⟨(⟨(⟨#[109]⟩:ByteArray),1,2,true,1,1⟩:Ch),true,8,noEx,noEx⟩]⟩:zQ),0)by kernel_rfl]at h
theorem zzY:zu Tryz.prog 20 [jv (⟨2,7,1,[5],0,[⟨5,3,0,0⟩],[⟨5,3,0,[],true,0⟩],[⟨(⟨(⟨#[109]⟩:ByteArray),1,2,true,1,1⟩:Ch),true,8,noEx,noEx⟩]⟩:zQ),gS (⟨#[109]⟩:ByteArray)] (rII (8,0)):=by
 have h:=ze7 (⟨2,7,1,[5],0,[⟨5,3,0,0⟩],[⟨5,3,0,[],true,0⟩],[⟨(⟨(⟨#[109]⟩:ByteArray),1,2,true,1,1⟩:Ch),true,8,noEx,noEx⟩]⟩:zQ) (⟨#[109]⟩:ByteArray) (zbf (by kernel_rfl)).nok
 rwa[show estN (⟨2,7,1,[5],0,[⟨5,3,0,0⟩],[⟨5,3,0,[],true,0⟩],[⟨(⟨(⟨#[109]⟩:ByteArray),1,2,true,1,1⟩:Ch),true,8,noEx,noEx⟩]⟩:zQ) (⟨#[109]⟩:ByteArray)=(8,0)by kernel_rfl]at h
theorem zAc:zu Tryz.prog 36 [jv (⟨2,7,1,[5],0,[⟨5,3,0,0⟩],[⟨5,3,0,[],true,0⟩],[⟨(⟨(⟨#[109]⟩:ByteArray),1,2,true,1,1⟩:Ch),true,8,noEx,noEx⟩]⟩:zQ)] (gB true):=by
 have h:=zqr (⟨2,7,1,[5],0,[⟨5,3,0,0⟩],[⟨5,3,0,[],true,0⟩],[⟨(⟨(⟨#[109]⟩:ByteArray),1,2,true,1,1⟩:Ch),true,8,noEx,noEx⟩]⟩:zQ) (zbf (by kernel_rfl)).nok
 rwa[show zaj (⟨2,7,1,[5],0,[⟨5,3,0,0⟩],[⟨5,3,0,[],true,0⟩],[⟨(⟨(⟨#[109]⟩:ByteArray),1,2,true,1,1⟩:Ch),true,8,noEx,noEx⟩]⟩:zQ)=true by kernel_rfl]at h
theorem zit:zu Tryz.prog 14 [] (gB true):=by
 refine enx [.tmp 0] Tryz.func14 fun X w0=>?_
 repeat'(first|(refine spl ?_ ?_<;>(intro hb;refine ne ?_))|(refine zl hR ?_;clear hR)|refine s1 ?_|exact True.intro|refine cal (zzI) ?_|refine cal (zwQ) ?_|refine cal (zvI) ?_|(refine zk8 rfl rfl (zv6) (by simp[zc9,ev,vle,cle,yT,ja];done) ?_;simp only[push_cast,seval, *])|refine cal (zzp) ?_|refine cal (zyK) ?_|refine cal (zzY) ?_|refine cal (zAc) ?_|(refine s2 ?_;try with_reducible intro R hR)|fail)
 all_goals(exact absurd hb (by simp[zaO]))
def zuu (c:Cal):List F:=[eI c.kd,eI c.v,eS c.nm,eI c.wh,eI c.x,eI c.p.kd,eI c.p.fr,eI c.p.to,eI c.p.bt,eI c.p.lf,eI c.p.ec,eI c.p.el,.l 19 (c.p.its.map yS)]
attribute [push_cast] zuu
attribute [simp] zuu
structure zuX (c:Cal):Prop where
 v:I64 c.v
 nm:c.nm.size≤1048576
 p:PkOk c.p
end Go.Proofs.YtbcbnfiedgnfpaaGreat
namespace Go.Proofs.YtbcbnfiedgnfpaaGreat
open Go.Dl Go.ChangeShapes Go.WideShapes Go.ChangeAt Go.RowKit Go.Joins Go.Deep Go.Ed
section
theorem zqm {H:Type} {enc:TypeId×Value→H} {C:Checked} {os:Os} {f:FuncId} {fn:Func} {s:ChangeSpec} {tb:TypeId} {F:Stop.Interp}
  (own:ownKnob C.prog.godebug=none) (started:os.Started) (noInit:C.prog.inits.idxOf? f=none) (hfn:C.prog.funcs[f]? =some fn)
  (witness: ∃(w:World) (tape:Tape) (i:Input),w.os=os∧(w.forCall tape i).Shaped C.prog∧i.vars=[]∧Input.okWide C.prog (w.forCall tape i) .any w.heap.size f i∧
   (Rows.OpenSpec.upto s).pre6 enc C.prog fn [] false (w.forCall tape i).memory i.args∧Assume.holds {} C.prog (lone (Frame.enter C.prog f i.args .normal) [] (w.forCall tape i)))
  (hl:laidOutB C.prog=true) (hpar:fn.params.toList.all (fun t=>C.prog.readableRec t&&decide (t<C.prog.types.size))=true)
  (hres:fn.resultTypes= #[tb]) (hb:C.prog.underlying tb=some .bool) (hv:s.vars=[])
  (hs: ∀ds:List (DataW H),ds.length=fn.params.size→s.fn H (ds++[])= {results:=[.lit (.bool true)],args:=ds})
  (walk: ∀(W:World) (base:Nat) (args:Array Value) (ds:List (DataW H)) (p:List MemPlace),
   (∀(j:Nat) t v,fn.params[j]? =some t→args[j]? =some v→Value.okWide C.prog W .any base t v)→
   DataW.TrodAll enc C.prog W 0 (fun _=>true) true fn.params.toList args.toList ds p→
   Rows.uptoBulkAll ds≤1048576→
   Calls C.prog f args W fun e W'=>e= .returned (.bool true)∧Below W.heap.size W W'):
  ReturnsInHanded {} C os f .any ((Rows.OpenSpec.upto s).pre6 enc C.prog fn [] false) (((Rows.OpenSpec.upto s).at F).post enc C.prog fn false true false false):=by
 refine returnsInHanded_of_cond (C:=C) (s:=Rows.OpenSpec.upto s) (k:=Rows.uptoSmall) rfl own started noInit hfn witness ?_
 intro W base args ds gs before hval hW _ hk _
 have hW':=hW
 obtain⟨p,q,hA,hV,rfl,_,_⟩:=hW
 have hV':DataW.TrodVars enc C.prog W (fun _=>true) s.vars gs q:=hV
 rw[hv]at hV'
 obtain⟨rfl,rfl⟩:=trodVars_none hV'
 have hlen:ds.length=fn.params.size:=by
  have: ∀(ts:List TypeId) (vs:List Value) (ds:List (DataW H)) (ps:List MemPlace),DataW.TrodAll enc C.prog W 0 (fun _=>true) true ts vs ds ps→ds.length=ts.length:=by
   intro ts
   induction ts with
   |nil=>intro vs ds ps h;cases vs<;>cases ds<;>first|rfl|exact h.elim
   | cons t ts ih=>
    intro vs ds ps h
    cases vs with
    |nil=>exact h.elim
    | cons v vs=>
     cases ds with
     |nil=>exact h.elim
     |cons d ds=>
      obtain⟨p,q,_,h2,_⟩:=h
      simp[ih vs ds q h2]
  simpa using this _ _ _ _ hA
 have hk':=of_decide_eq_true hk
 rw[List.append_nil]at hk'
 refine(walk W base args ds p hval hA hk').mono fun e W' ⟨he,bel⟩=>?_
 subst he
 refine⟨_,rfl,ds,[],_,[],p,[],hW',?_,?_,?_,bel.frame _,fun h=>by cases h⟩
 ·show DataW.TrodAll enc C.prog W' W.heap.size _ _ _ _ (s.fn H (ds++[])).results _
  rw[hs ds hlen,hres]
  exact trodAll_mk1 (shut_bool hb _)
 ·show DataW.TrodAll enc C.prog W' 0 _ _ _ _ (s.fn H (ds++[])).args _
  rw[hs ds hlen]
  exact zbn hl bel _ _ _ _ hpar hA
 ·show DataW.TrodVars enc C.prog W' _ s.vars (s.fn H (ds++[])).vars _
  rw[hv,hs ds hlen]
  rfl
theorem zn3 {P:Program} {f:FuncId} {args:List V} (h:zu P f args (gB true)) (W:World) (us:Array Value) (hl:args.length=us.size) (hr: ∀(j:Nat) v u,args[j]? =some v→us[j]? =some u→qr W (.pure (fun b=>b<W.heap.size)) v u):
  Calls P f us W fun e W'=>e= .returned (.bool true)∧Below W.heap.size W W':=
 (h.2 W us (fun b=>b<W.heap.size) (fun _ hb=>hb) hl hr).mono fun e W' ⟨u,I',he,hu,hb,_⟩=>by
  cases hu with
  | c hu=>cases hu with
   |f hu=>cases hu with
    |s=>exact⟨he,hb⟩
section
variable {H:Type} {enc:TypeId×Value→H} {w:World} {B base:Nat} {d:DataW H} {ps:List MemPlace} {v:Value}
theorem zxj (ok:Value.okWide Tryz.prog w .any base 3 v) (h:DataW.Trod enc Tryz.prog w 0 (fun _=>true) true 3 v d ps): ∃n:Int,I64 n∧qr w (.pure (fun b=>b<w.heap.size)) (gI n) v:=by
 obtain⟨n,rfl⟩:=okWide_int Tryz.underlying3 ok
 obtain⟨m,hm⟩:=h
 obtain⟨x,r,hx⟩:=qp Tryz.underlying3 hm
 simp only[Value.cells,List.cons.injEq,and_true,Value.int.injEq,true_and]at r
 subst r
 exact⟨n,hx,.c (.f (.s rfl))⟩
theorem zmD (ok:Value.okWide Tryz.prog w .any base 2 v) (h:DataW.Trod enc Tryz.prog w 0 (fun _=>true) true 2 v d ps): ∃n:Int,I64 n∧qr w (.pure (fun b=>b<w.heap.size)) (gI n) v:=by
 obtain⟨n,rfl⟩:=okWide_int Tryz.underlying2 ok
 obtain⟨m,hm⟩:=h
 obtain⟨x,r,hx⟩:=qp Tryz.underlying2 hm
 simp only[Value.cells,List.cons.injEq,and_true,Value.int.injEq,true_and]at r
 subst r
 exact⟨n,hx,.c (.f (.s rfl))⟩
variable {fuel:Nat} {cs:List Value} {y:DataW H×List MemPlace}
end
theorem zrr {P:Program} {f:FuncId} {fn:Func} {s:ChangeSpec} {c:OpenClaim} (h1:c.inPlace=P.inPlace f) (h2:c.unfollowed=P.unfollowed f) (h3:c.recurses=P.recurses f) (h4:c.named=P.varsNamed f)
  (rest:(c.wf (OpenSpec.ofChange s)&&laidOutB P&&mapsRowed P&&
 fn.params.all (P.readableRec ·)&&namedTie P c.named s.vars&&
 (c.stops==[])&&(P.stops==[])&&(c.knobs==[])&&(P.stopKnobs==[])&&
 (c.maps==(fn.params.toList++s.plain.varTypes P).any (P.mapsRec ·))&&(c.ifaces==(fn.params.toList++s.plain.varTypes P).any (P.ifacesRec ·))&&(c.mapsOut==P.mapsAmong fn.resultTypes.toList)&&
 (c.loops==(fn.params.toList++s.plain.varTypes P).any (P.loopsFrom ·))&&(c.wideKeys==(fn.params.toList++s.plain.varTypes P++fn.resultTypes.toList).any (P.wideKeysFrom ·))&&
 s.vars.all (P.varReadable ·)&&fn.resultTypes.all (fun t=>P.readableRec t&&decide (t<P.types.size))&&(c.ifacesOut==fn.resultTypes.toList.any (P.ifacesRec ·))&&(c.loopsOut==fn.resultTypes.toList.any (P.loopsFrom ·))&&(c.plainKeys==P.plainKeys)&&c.shortTexts.isNone&&P.stopsHeard&&P.mayEnter&&(c.lifted==P.liftsFinal)&&(P.make==some c.make)&&(c.kinds==(if c.domain.isEmpty then []else fn.params.toList.map fun t=>match P.underlying t with|some (.int k)=>some k| _=>none))&&(c.pinned==c.pinnedBy)&&
 (c.veiled==(fn.params.toList++s.plain.varTypes P++fn.resultTypes.toList).any (P.veiledRec ·))&&c.veiledFits P fn.params.toList (fn.params.toList++s.plain.varTypes P++fn.resultTypes.toList))=true):
  joinedFacts P f fn s c=true:=by
 have g1:(c.inPlace==P.inPlace f)=true:=by rw[h1];exact beq_self_eq_true _
 have g2:(c.unfollowed==P.unfollowed f)=true:=by rw[h2];exact beq_self_eq_true _
 have g3:(c.recurses==P.recurses f)=true:=by rw[h3];exact beq_self_eq_true _
 have g4:(c.named==P.varsNamed f)=true:=by rw[h4];exact beq_self_eq_true _
 unfold joinedFacts
 rw[g1,g2,g3,g4,Bool.and_true,Bool.and_true,Bool.and_true,Bool.and_true]
 exact rest
theorem own:ownKnob Tryz.prog.godebug=none:=by kernel_rfl
theorem zvj:laidOutB Tryz.prog=true:=by kernel_rfl
end
end Go.Proofs.YtbcbnfiedgnfpaaGreat
namespace Go.Proofs.YtbcbnfiedgnfpaaGreat
open Go.Dl
theorem zEk (a sc:Int):yD [] a emB 1 sc=if JF 1 sc then([chM a sc],0)else([],47):=by
 have h1:jr emB=true:=by decide
 unfold yD
 simp only[za9,h1,YY]
 cases hs:JF 1 sc
 ·simp[zcQ]
 ·have:wr (zdf.ep+1)=1:=by decide
  simp[zcQ,this,chM];decide
theorem zFU {a bA b sc:Int} (h: ¬(1≤sc∧sc≤1048576)):zi3 ⟨a,bA,0,[b],0,[],[],[]⟩ emB 1 sc=(⟨⟨a,bA,0,[b],0,[],[],[]⟩,[],[]⟩,47):=by
 have hs:JF 1 sc=false:=by simp only[JF];simp;omega
 have hc:yD [] a emB 1 sc=([],47):=by rw[zEk,hs];rfl
 simp[zi3,ZG,zdk,recT,hc]
theorem zF0 {a bA b sc:Int} (h:1≤sc∧sc≤1048576): ∃es,zi3 ⟨a,bA,0,[b],0,[],[],[]⟩ emB 1 sc=(⟨m0 a b bA sc,[],es⟩,0):=by
 have hs:JF 1 sc=true:=by simp only[JF];simp;exact h
 have hc:yD [] a emB 1 sc=([chM a sc],0):=by rw[zEk,hs];rfl
 refine⟨[⟨5,0,emB,1⟩],?_⟩
 have hn:(chM a sc).nm=emB:=rfl
 simp[zi3,ZG,zdk,recT,hc,JM,zxP,zbA,madeL,hn,jA,Qy,qg,yg,m0,chM]
theorem zF3 (id bt tk p btp:Int) (g:jQ) (pe:Bool) (a sc x:Int):zer (ndM id bt tk p btp g pe a sc false 0) emB x=if(y0 x sc).2=0 then(ndM id bt tk p btp g pe a sc true (y0 x sc).1,0)else(ndM id bt tk p btp g pe a sc false 0,(y0 x sc).2):=by
 have hh:Jr emB (⟨chM a sc,false,0,noEx,noEx⟩:Tt)=true:=by simp[Jr,chM]
 have hp:J3 emB [(⟨chM a sc,false,0,noEx,noEx⟩:Tt)]=0:=by rw[Y5,if_pos hh]
 have hk:qV (chM a sc).kd x (chM a sc).sc=y0 x sc:=rfl
 unfold zer QF
 simp only[ndM,hp,zjP,hk,zcB,hh]
 by_cases h:(y0 x sc).2=0
 ·simp[h,zrd,chM]
 ·simp[h]
theorem zCU (x y:Int):(y0 x y).2=0∨(y0 x y).2=10:=by unfold y0;split<;>simp
theorem zqA {x y:Int} (h:(y0 x y).2=0):flowB x=true∧flowB y=true∧flowB (y0 x y).1=true∧(y0 x y).1=wr (x*y):=by
 unfold y0 at h ⊢
 by_cases hc:(flowB x&&flowB y&&flowB (wr (x*y)))=true
 ·rw[if_pos hc];simp only[Bool.and_eq_true]at hc;exact⟨hc.1.1,hc.1.2,hc.2,rfl⟩
 ·rw[if_neg hc]at h;simp at h
theorem zEz {x y:Int} (h:(y0 x y).2=0):(y0 x y).1=x*y:=by
 obtain⟨h1,h2,h3,h4⟩:=zqA h
 rw[h4]
 have hx:=ZQ h1
 have hy:=ZQ h2
 have: -(2147483647*2147483647)≤x*y∧x*y≤2147483647*2147483647:=by
  have a1:x.natAbs≤2147483647:=by omega
  have a2:y.natAbs≤2147483647:=by omega
  have a3:(x*y).natAbs≤2147483647*2147483647:=by rw[Int.natAbs_mul];exact Nat.mul_le_mul a1 a2
  omega
 exact zlU (by omega)
theorem zFS {x y sc:Int} (hx:(y0 x sc).2=0) (hy:(y0 y sc).2=0):
  wr (((y0 x sc).1 - amZ (y0 x sc).1 (y0 y sc).1)+((y0 y sc).1+amZ (y0 x sc).1 (y0 y sc).1))=wr (wr (x+y)*sc)
  ∧wr (((y0 x sc).1 - amZ (y0 x sc).1 (y0 y sc).1) - ((y0 y sc).1+amZ (y0 x sc).1 (y0 y sc).1))≤1
  ∧wr (((y0 y sc).1+amZ (y0 x sc).1 (y0 y sc).1) - ((y0 x sc).1 - amZ (y0 x sc).1 (y0 y sc).1))≤1:=by
 obtain⟨h1,h2,h3,h4⟩:=zqA hx
 obtain⟨k1,k2,k3,k4⟩:=zqA hy
 obtain⟨b1,b2,b3,b4⟩:=zEb h3 k3
 have e1:=zEz hx
 have e2:=zEz hy
 have v1:=ZQ h1
 have v2:=ZQ k1
 have v3:=ZQ h3
 have v4:=ZQ k3
 have es:wr (x+y)=x+y:=zlU (by omega)
 rw[es]
 generalize amZ (y0 x sc).1 (y0 y sc).1=am at*
 rw[Int.add_mul,←e1,←e2]
 generalize (y0 x sc).1=X at*
 generalize (y0 y sc).1=Y at*
 refine⟨by congr 1;omega,?_,?_⟩
 ·rw[zlU (by omega)];omega
 ·rw[zlU (by omega)];omega
theorem zEe (k:Nat) (m n:zQ):exG k m n []=(m,n,true):=by cases k<;>rfl
theorem zEd (m n:zQ) (p:qO) (q:List qO):exG 0 m n (p::q)=(m,n,false):=rfl
theorem zED {k:Nat} {m n:zQ} {l:List qO} {j:Nat} (h:j<l.length):exG (k+1) m n (l.drop j)=if l[j].to=n.id then exG k m (jp n l[j]).n ((l++(jp n l[j]).ps).drop (j+1))else exG k (jp m l[j]).n n ((l++(jp m l[j]).ps).drop (j+1)):=by
 rw[List.drop_eq_getElem_cons h,List.drop_append_of_le_length (by omega),List.drop_append_of_le_length (by omega)]
 rfl
end Go.Proofs.YtbcbnfiedgnfpaaGreat
namespace Go.Proofs.YtbcbnfiedgnfpaaGreat.nodePairs
open Go.Dl Go.ChangeShapes Go.WideShapes Go.ChangeAt Go.RowKit Go.Joins Go.Deep Go.Ed
attribute [local irreducible] DW yE zY zA zu zky
attribute [local push_cast] zZ qF qC zN zM zD zE qH qE qz Go.Dl.qY yT qy List.mem_cons List.not_mem_nil or_false forall_eq false_implies implies_true
section
attribute [local simp] cv
theorem zEA (n:zQ) (w:Wk) (hF:zy n) (hw:tickW n=w):zA Tryz.prog 55 [jv n] [] [] (.tup [(true,cNd w.n),(false,[.o 1]),(false,[.o 2])]) [] [(1,30,8,w.ps.map yG),(2,38,4,w.es.map zeq)]:=by
 have hnk:=hF.nok
 have ht:=zvu n hF
 rw[hw]at ht
 refine emx [.cell 2 27,.tmp 3,.tmp 4] Tryz.func55 fun XX X G w0=>?_
 repeat'(first|(refine spl ?_ ?_<;>(intro hb;refine ne ?_))|(refine zl hR ?_;clear hR)|refine s1 ?_|exact True.intro|refine cal (yL n hnk) ?_|(refine zB (zK 9 8 100 30 8 (by rfl) (by rfl) (by rfl)) ?_;refine zB (zK 9 9 101 38 4 (by rfl) (by rfl) (by rfl)) ?_;simp only[List.set_cons_succ,List.set_cons_zero])|refine cM [(0,9)] [(0,100),(1,101)] (ht) ?_|refine rdb [] ?_|refine rex [] ?_|(refine s2 ?_;try with_reducible intro R hR)|fail)
 exact fmx [(1,100),(2,101)]
theorem zFx {p:qO} (h:jb p=true):PkOk p:=by
 have h1:=zfw h
 refine⟨by omega,fun x hx=>?_⟩
 obtain⟨_,_,_,_,_,_,_,_,h9⟩:=zl5.1 h
 by_cases hk:p.kd=3∨p.kd=4
 ·rw[if_pos hk]at h9
  have:=(zib (zeG (y8 ((zik.1 h9.2).2.1 x hx)))).2;omega
 ·rw[if_neg hk]at h9;rw[h9]at hx;cases hx
structure JX (r:zQ×zQ×Bool) (m n:zQ) (l:List qO) (j:Nat):Prop where
 e:exG (41 - j) m n (l.drop j)=r
 fm:zy m
 fn:zy n
 fp: ∀p∈l,PkOk p
 hj:j≤41
 jl:j≤l.length
 ll:l.length≤100*(j+1)
theorem zFM {r:zQ×zQ×Bool} {m n:zQ} {l:List qO} {j:Nat} (h:JX r m n l j):
  (l.length≤j∧r=(m,n,true))∨(j<l.length∧j=41∧r=(m,n,false))∨
  (∃hl:j<l.length,j<41∧(l[j].to==n.id)=true∧∃n2 ps2 es2,zu Tryz.prog 15 [jv n,ZJ l[j]] (rW ⟨n2,ps2,es2⟩)∧ps2.length≤100∧JX r m n2 (l++ps2) (j+1))∨
  (∃hl:j<l.length,j<41∧(l[j].to==n.id)=false∧∃n2 ps2 es2,zu Tryz.prog 15 [jv m,ZJ l[j]] (rW ⟨n2,ps2,es2⟩)∧ps2.length≤100∧JX r n2 n (l++ps2) (j+1)):=by
 obtain⟨q1,q2,q3,q4,q5,q6,q7⟩:=h
 rcases Nat.lt_or_ge j l.length with hlt|hge
 ·right
  have ho:=q4 l[j] (List.getElem_mem hlt)
  by_cases h41:j=41
  ·left
   subst h41
   rw[List.drop_eq_getElem_cons hlt,Nat.sub_self,zEd]at q1
   exact⟨hlt,rfl,q1.symm⟩
  ·right
   rw[show 41 - j=(40 - j)+1 from by omega,zED hlt]at q1
   have key: ∀x:zQ,zy x→(jp x l[j]).ps.length≤100∧zy (jp x l[j]).n∧(∀p∈l++(jp x l[j]).ps,PkOk p)∧j+1≤41∧j+1≤(l++(jp x l[j]).ps).length∧(l++(jp x l[j]).ps).length≤100*(j+1+1):=fun x hx=>by
    have f:=(zuV l[j] hx).1
    refine⟨f,(zk3 l[j] hx).1,fun p hp=>?_,by omega,by rw[List.length_append];omega,by rw[List.length_append];omega⟩
    rcases List.mem_append.1 hp with hp|hp
    ·exact q4 p hp
    ·exact zFx (zwO l[j] hx p hp).1
   have e:41 - (j+1)=40 - j:=by omega
   by_cases hto:l[j].to=n.id
   ·left
    rw[if_pos hto]at q1
    obtain⟨k1,k2,k3,k4,k5,k6⟩:=key n q3
    exact⟨hlt,by omega,by simpa using hto,(jp n l[j]).n,(jp n l[j]).ps,(jp n l[j]).es,zbm n l[j] q3 ho,k1,by rw[e];exact q1,q2,k2,k3,k4,k5,k6⟩
   ·right
    rw[if_neg hto]at q1
    obtain⟨k1,k2,k3,k4,k5,k6⟩:=key m q2
    exact⟨hlt,by omega,by simpa using hto,(jp m l[j]).n,(jp m l[j]).ps,(jp m l[j]).es,zbm m l[j] q2 ho,k1,by rw[e];exact q1,k2,q3,k3,k4,k5,k6⟩
 ·left
  rw[List.drop_of_length_le hge,zEe]at q1
  exact⟨hge,q1.symm⟩
theorem zFH (m n:zQ) (r:zQ×zQ×Bool) (hm:zy m) (hn:zy n) (hr:zEq m n=r):zu Tryz.prog 25 [jv m,jv n] (.tup [(true,cNd r.1),(true,cNd r.2.1),(false,[.f (eB r.2.2)])]):=by
 have hfw:=(ztQ hm).1
 have hJ0:JX r (tickW m).n n (tickW m).ps 0:=⟨hr,(zl3 hm).1,hn,fun p hp=>zFx (zvr hm p hp).1,by omega,by omega,by omega⟩
 clear hr
 obtain⟨w,hw⟩: ∃w,tickW m=w:=⟨_,rfl⟩
 have ht:=zEA m w hm hw
 rw[hw]at hJ0
 obtain⟨m0,ps,es⟩:=w
 simp only at hJ0
 refine enx [.cell 4 27,.cell 5 27,.tmp 6] Tryz.func25 fun X w0=>?_
 repeat'(first|(refine spl ?_ ?_<;>(intro hb;refine ne ?_))|(refine zl hR ?_;clear hR)|refine s1 ?_|exact True.intro|refine cM [] [(1,50),(2,51)] (ht) ?_|(refine zcK (ι:=zQ×zQ×List qO×Nat×Nat) (fun x=>St.ofA [(2,.loc 2 0),(3,.loc 3 0),(4,.loc 4 0),(5,.loc 5 0),(7,.c (.o 90)),(9,gI x.2.2.2.1)] [(2,27,cNd x.1),(3,27,cNd x.2.1),(4,27,[.un,.un,.un,.un,.un,.un,.un,.un]),(5,27,[.un,.un,.un,.un,.un,.un,.un,.un])] [(90,x.2.2.2.2,30,8,x.2.2.1.map yG)]) (fun x=>JX r x.1 x.2.1 x.2.2.1 x.2.2.2.1) (fun x=>42 - x.2.2.2.1) (m0,n,ps,0,50) ?_ (by(refine zp rfl ?_ ?_ ?_<;>simp);done) (fun i hqi RL hRL=>?_);rotate_left;obtain⟨m1,n1,l1,j,nm⟩:=i;simp only at hqi;have q7:=hqi.ll;have q5:=hqi.hj;rcases zFM hqi with⟨hge,q1⟩|⟨hlt,h41,q1⟩|⟨hlt,h41,hto,n2,ps2,es2,hrc,f2,hJ2⟩|⟨hlt,h41,hto,n2,ps2,es2,hrc,f2,hJ2⟩;(iterate 2 (subst q1;rotate_left));rotate_left 2;rotate_right)|refine rdb [] ?_|refine cad (hrc) ?_|refine lat ?_|refine rex [] ?_|(exact absurd True.intro hb)|(exfalso;omega)|(refine ztu (by assumption) ((m1,n2,l1++ps2,j+1,57)) ?_ ?_ ?_;(focus((refine zp rfl ?_ ?_ ?_<;>simp);all_goals(rw[IntKind.wrap_i64];omega))))|(refine ztu (by assumption) ((n2,n1,l1++ps2,j+1,57)) ?_ ?_ ?_;(focus((refine zp rfl ?_ ?_ ?_<;>simp);all_goals(rw[IntKind.wrap_i64];omega))))|(refine s2 ?_;try with_reducible intro R hR)|fail)
 all_goals(first|exact hJ2|exact hJ0|omega|trace_state)
theorem zFK {id bt:Int} (h:0≤id∧id<16∧1≤bt∧bt≤1099511627776):zy ⟨id,bt,0,[],0,[],[],[]⟩:=by
 obtain⟨h1,h2,h3,h4⟩:=h
 have hn:nodeB id=true:=qd.2 ⟨h1,h2⟩
 exact⟨⟨h3,h4⟩,by simp,zU.2 ⟨hn,by simp,by simp,.inl rfl,by simp,by simp⟩,ZD.2 ⟨by simp[SrtS],by simp,hn⟩,q8.2 ⟨by simp[SrtH],by simp,hn⟩,zH.2 ⟨h1,h2,by simp,by simp[Qb,recT],by simp,by simp⟩⟩
theorem zEt {a b bA:Int} (ha:nodeB a=true) (hb:nodeB b=true) (hne:a≠b):zd0 ⟨a,bA,0,[],0,[],[],[]⟩ b=(⟨⟨a,bA,0,[b],0,[],[],[]⟩,[],[]⟩,0):=by
 simp[zd0,JU,hb,Ne.symm hne]
theorem zFi (a b bA bB x y sc:Int) (c1:zu Tryz.prog 22 [gI a,gI bA] (jv zBl)):zu Tryz.prog 5 [gI a,gI b,gI bA,gI bB,gI x,gI y,gI sc] (gB true):=by
 have c2:=zq8 b bB
 generalize zsa b bB=q at c2
 by_cases hq:a=b∧bA=bB
 ·obtain⟨rfl,rfl⟩:=hq
  refine enx [.tmp 14] Tryz.func5 fun X w0=>?_
  repeat'(first|(refine spl ?_ ?_<;>(intro hb;refine ne ?_))|(refine zl hR ?_;clear hR)|refine s1 ?_|exact True.intro|refine cal (c1) ?_|refine cal (zit) ?_|(refine s2 ?_;try with_reducible intro R hR)|fail)
 ·refine enx [.tmp 14] Tryz.func5 fun X w0=>?_
  repeat'(first|(refine spl ?_ ?_<;>(intro hb;refine ne ?_))|(refine zl hR ?_;clear hR)|refine s1 ?_|exact True.intro|refine cal (c1) ?_|refine cal (c2) ?_|refine cal (zit) ?_|(refine s2 ?_;try with_reducible intro R hR)|fail)
theorem zE0 (a b bA bB x y sc:Int) (m:zQ) (c1:zu Tryz.prog 22 [gI a,gI bA] (jv m)) (c2:zu Tryz.prog 22 [gI b,gI bB] (jv zBl)):zu Tryz.prog 5 [gI a,gI b,gI bA,gI bB,gI x,gI y,gI sc] (gB true):=by
 refine enx [.tmp 14] Tryz.func5 fun X w0=>?_
 repeat'(first|(refine spl ?_ ?_<;>(intro hb;refine ne ?_))|(refine zl hR ?_;clear hR)|refine s1 ?_|exact True.intro|refine cal (c1) ?_|refine cal (c2) ?_|refine cal (zit) ?_|(refine s2 ?_;try with_reducible intro R hR)|fail)
theorem zFI (a bA bB x y sc:Int) (m n:zQ) (c1:zu Tryz.prog 22 [gI a,gI bA] (jv m)) (c2:zu Tryz.prog 22 [gI a,gI bB] (jv n)):zu Tryz.prog 5 [gI a,gI a,gI bA,gI bB,gI x,gI y,gI sc] (gB true):=by
 refine enx [.tmp 14] Tryz.func5 fun X w0=>?_
 repeat'(first|(refine spl ?_ ?_<;>(intro hb;refine ne ?_))|(refine zl hR ?_;clear hR)|refine s1 ?_|exact True.intro|(exact Bool.noConfusion (Eq.trans (Eq.symm (beq_self_eq_true a)) hb))|refine cal (c1) ?_|refine cal (c2) ?_|refine cal (zit) ?_|(refine s2 ?_;try with_reducible intro R hR)|fail)
theorem zFB (a b bA bB x y sc:Int) (w:Wk) (hA:(bA==0)=false) (hB:(bB==0)=false) (hn:(a==b)=false) (c1:zu Tryz.prog 22 [gI a,gI bA] (jv ⟨a,bA,0,[],0,[],[],[]⟩)) (c2:zu Tryz.prog 22 [gI b,gI bB] (jv ⟨b,bB,0,[],0,[],[],[]⟩)) (l1:zu Tryz.prog 23 [jv ⟨a,bA,0,[],0,[],[],[]⟩,gI b] (rWE (⟨⟨a,bA,0,[b],0,[],[],[]⟩,[],[]⟩,0))) (l2:zu Tryz.prog 23 [jv ⟨b,bB,0,[],0,[],[],[]⟩,gI a] (rWE (⟨⟨b,bB,0,[a],0,[],[],[]⟩,[],[]⟩,0))) (cr:zu Tryz.prog 24 [jv ⟨a,bA,0,[b],0,[],[],[]⟩,gS ⟨#[109]⟩,gI 1,gI sc] (rWE (w,47))):zu Tryz.prog 5 [gI a,gI b,gI bA,gI bB,gI x,gI y,gI sc] (gB true):=by
 refine enx [.tmp 14] Tryz.func5 fun X w0=>?_
 repeat'(first|(refine spl ?_ ?_<;>(intro hb;refine ne ?_))|(refine zl hR ?_;clear hR)|refine s1 ?_|exact True.intro|refine cal (c1) ?_|refine cal (c2) ?_|refine cal (l1) ?_|refine cal (l2) ?_|refine cal (cr) ?_|refine cal (zit) ?_|(refine s2 ?_;try with_reducible intro R hR)|fail)
theorem zCo (a b bA bB x y sc e f:Int) (es:List ZF) (m n m1 n1 m2 n2:zQ) (hA:(bA==0)=false) (hB:(bB==0)=false) (hn:(a==b)=false) (c1:zu Tryz.prog 22 [gI a,gI bA] (jv ⟨a,bA,0,[],0,[],[],[]⟩)) (c2:zu Tryz.prog 22 [gI b,gI bB] (jv ⟨b,bB,0,[],0,[],[],[]⟩)) (l1:zu Tryz.prog 23 [jv ⟨a,bA,0,[],0,[],[],[]⟩,gI b] (rWE (⟨⟨a,bA,0,[b],0,[],[],[]⟩,[],[]⟩,0))) (l2:zu Tryz.prog 23 [jv ⟨b,bB,0,[],0,[],[],[]⟩,gI a] (rWE (⟨⟨b,bB,0,[a],0,[],[],[]⟩,[],[]⟩,0))) (cr:zu Tryz.prog 24 [jv ⟨a,bA,0,[b],0,[],[],[]⟩,gS ⟨#[109]⟩,gI 1,gI sc] (rWE (⟨m,[],es⟩,0))) (e1:zu Tryz.prog 25 [jv m,jv ⟨b,bB,0,[a],0,[],[],[]⟩] (.tup [(true,cNd m1),(true,cNd n1),(false,[.f (eB true)])])) (u1:zu Tryz.prog 26 [jv m1,gS ⟨#[109]⟩,gI x] (rNE (m2,e))) (u2:zu Tryz.prog 26 [jv n1,gS ⟨#[109]⟩,gI y] (rNE (n2,f))) (he:e=0∧f=10∨e=10∧f=0∨e=10∧f=10):zu Tryz.prog 5 [gI a,gI b,gI bA,gI bB,gI x,gI y,gI sc] (gB true):=by
 rcases he with⟨rfl,rfl⟩|⟨rfl,rfl⟩|⟨rfl,rfl⟩
 all_goals
  refine enx [.tmp 14] Tryz.func5 fun X w0=>?_
  repeat'(first|(refine spl ?_ ?_<;>(intro hb;refine ne ?_))|(refine zl hR ?_;clear hR)|refine s1 ?_|exact True.intro|refine cal (c1) ?_|refine cal (c2) ?_|refine cal (l1) ?_|refine cal (l2) ?_|refine cal (cr) ?_|refine cal (e1) ?_|refine cal (u1) ?_|refine cal (u2) ?_|refine cal (zit) ?_|(refine s2 ?_;try with_reducible intro R hR)|fail)
theorem zFz (a b bA bB x y sc p q:Int) (es:List ZF) (m n m1 n1 m2 n2 m3 n3:zQ) (hA:(bA==0)=false) (hB:(bB==0)=false) (hn:(a==b)=false) (c1:zu Tryz.prog 22 [gI a,gI bA] (jv ⟨a,bA,0,[],0,[],[],[]⟩)) (c2:zu Tryz.prog 22 [gI b,gI bB] (jv ⟨b,bB,0,[],0,[],[],[]⟩)) (l1:zu Tryz.prog 23 [jv ⟨a,bA,0,[],0,[],[],[]⟩,gI b] (rWE (⟨⟨a,bA,0,[b],0,[],[],[]⟩,[],[]⟩,0))) (l2:zu Tryz.prog 23 [jv ⟨b,bB,0,[],0,[],[],[]⟩,gI a] (rWE (⟨⟨b,bB,0,[a],0,[],[],[]⟩,[],[]⟩,0))) (cr:zu Tryz.prog 24 [jv ⟨a,bA,0,[b],0,[],[],[]⟩,gS ⟨#[109]⟩,gI 1,gI sc] (rWE (⟨m,[],es⟩,0))) (e1:zu Tryz.prog 25 [jv m,jv ⟨b,bB,0,[a],0,[],[],[]⟩] (.tup [(true,cNd m1),(true,cNd n1),(false,[.f (eB true)])])) (u1:zu Tryz.prog 26 [jv m1,gS ⟨#[109]⟩,gI x] (rNE (m2,0))) (u2:zu Tryz.prog 26 [jv n1,gS ⟨#[109]⟩,gI y] (rNE (n2,0))) (e2:zu Tryz.prog 25 [jv m2,jv n2] (.tup [(true,cNd m3),(true,cNd n3),(false,[.f (eB true)])])) (v1:zu Tryz.prog 20 [jv m3,gS ⟨#[109]⟩] (rII (p,0))) (v2:zu Tryz.prog 20 [jv n3,gS ⟨#[109]⟩] (rII (q,0))) (hm:m3.hv.length=1) (hn3:n3.hv.length=1)
  (f1:(IntKind.i64.wrap (p+q)==IntKind.i64.wrap (IntKind.i64.wrap (x+y)*sc))=true) (f2:IntKind.i64.wrap (p - q)≤1) (f3:IntKind.i64.wrap (q - p)≤1):zu Tryz.prog 5 [gI a,gI b,gI bA,gI bB,gI x,gI y,gI sc] (gB true):=by
 refine enx [.tmp 14] Tryz.func5 fun X w0=>?_
 repeat'(first|(refine spl ?_ ?_<;>(intro hb;refine ne ?_))|(refine zl hR ?_;clear hR)|refine s1 ?_|exact True.intro|refine cal (c1) ?_|refine cal (c2) ?_|refine cal (l1) ?_|refine cal (l2) ?_|refine cal (cr) ?_|refine cal (e1) ?_|refine cal (u1) ?_|refine cal (u2) ?_|refine cal (e2) ?_|(exact absurd True.intro hb)|refine cal (v1) ?_|refine cal (v2) ?_|refine cal (zit) ?_|(refine s2 ?_;try with_reducible intro R hR)|fail)
 all_goals trace_state
theorem law_c (a b bA bB x y sc:Int):zu Tryz.prog 5 [gI a,gI b,gI bA,gI bB,gI x,gI y,gI sc] (gB true):=by
 have c1:=zq8 a bA
 have c2:=zq8 b bB
 by_cases va:0≤a∧a<16∧1≤bA∧bA≤1099511627776
 rotate_left
 ·rw[zzb va]at c1;exact zFi _ _ _ _ _ _ _ c1
 by_cases vb:0≤b∧b<16∧1≤bB∧bB≤1099511627776
 rotate_left
 ·rw[zzb vb]at c2;exact zE0 _ _ _ _ _ _ _ _ c1 c2
 by_cases hne:a=b
 ·subst hne;exact zFI _ _ _ _ _ _ _ _ c1 c2
 rw[zzN va]at c1
 rw[zzN vb]at c2
 have na:nodeB a=true:=qd.2 ⟨va.1,va.2.1⟩
 have nb:nodeB b=true:=qd.2 ⟨vb.1,vb.2.1⟩
 have hA:(bA==0)=false:=by simp;omega
 have hB:(bB==0)=false:=by simp;omega
 have hn:(a==b)=false:=by simpa using hne
 have l1:=zfa ⟨a,bA,0,[],0,[],[],[]⟩ b (zFK va)
 have l2:=zfa ⟨b,bB,0,[],0,[],[],[]⟩ a (zFK vb)
 rw[zEt na nb hne]at l1
 rw[zEt nb na (Ne.symm hne)]at l2
 have T1:Two b a bB bA 1:=⟨nb,na,Ne.symm hne,vb.2.2,va.2.2,by omega⟩
 have cr:=zbW ⟨a,bA,0,[b],0,[],[],[]⟩ emB 1 sc (zEW T1)
 by_cases hs:1≤sc∧sc≤1048576
 rotate_left
 ·rw[zFU hs]at cr;exact zFB _ _ _ _ _ _ _ _ hA hB hn c1 c2 l1 l2 cr
 obtain⟨es,hcr⟩:=zF0 (a:=a) (bA:=bA) (b:=b) hs
 rw[hcr]at cr
 have T:Two a b bA bB sc:=⟨na,nb,hne,va.2.2,vb.2.2,hs⟩
 obtain⟨x1,x2,x3⟩:=zGE T
 have e1:=zFH _ _ _ (zFv T) (zEW T) x1
 have s1:=zhx _ emB x x2
 have s2:=zhx _ emB y x3
 have y1:=(zt9 (nm:=emB) (v:=x) x2).1
 have y2:=(zt9 (nm:=emB) (v:=y) x3).1
 rw[zF3]at s1 s2 y1 y2
 by_cases hx:(y0 x sc).2=0
 ·by_cases hy:(y0 y sc).2=0
  ·rw[if_pos hx]at s1 y1
   rw[if_pos hy]at s2 y2
   obtain⟨_,_,hX,_⟩:=zqA hx
   obtain⟨_,_,hY,_⟩:=zqA hy
   obtain⟨z1,z2,z3⟩:=zGy T hX hY y1 y2
   have e2:=zFH _ _ _ y1 y2 z1
   obtain⟨t1,t2⟩:=zF4 T hX hY z2 z3
   have p1:=ze7 _ emB z2.nok
   have p2:=ze7 _ emB z3.nok
   rw[t1]at p1
   rw[t2]at p2
   obtain⟨f1,f2,f3⟩:=zFS hx hy
   exact zFz a b bA bB x y sc _ _ es _ (n0 a b bB) _ _ _ _ _ _ hA hB hn c1 c2 l1 l2 cr e1 s1 s2 e2 p1 p2 rfl rfl (beq_iff_eq.2 f1) f2 f3
  ·rw[if_pos hx]at s1
   rw[if_neg hy]at s2
   exact zCo a b bA bB x y sc _ _ es _ (n0 a b bB) _ _ _ _ hA hB hn c1 c2 l1 l2 cr e1 s1 s2 (.inl ⟨rfl,(zCU y sc).resolve_left hy⟩)
 ·rw[if_neg hx]at s1
  by_cases hy:(y0 y sc).2=0
  ·rw[if_pos hy]at s2
   exact zCo a b bA bB x y sc _ _ es _ (n0 a b bB) _ _ _ _ hA hB hn c1 c2 l1 l2 cr e1 s1 s2 (.inr (.inl ⟨(zCU x sc).resolve_left hx,rfl⟩))
  ·rw[if_neg hy]at s2
   exact zCo a b bA bB x y sc _ _ es _ (n0 a b bB) _ _ _ _ hA hB hn c1 c2 l1 l2 cr e1 s1 s2 (.inr (.inr ⟨(zCU x sc).resolve_left hx,(zCU y sc).resolve_left hy⟩))
set_option maxRecDepth 100000 in
theorem lifted (os:Os) (started:os.Started) (H:Type) (enc:TypeId×Value→H) (F:Stop.Interp):
  ReturnsInHanded {} Tryz.checked os 5 .any ((Rows.OpenSpec.upto Rows.nodePairsSpec).pre6 enc Tryz.prog Tryz.f5 Rows.nodePairsUptoRow.domain false) (((Rows.OpenSpec.upto Rows.nodePairsSpec).at F).post enc Tryz.prog Tryz.f5 false true false false):=by
 refine zqm (C:=Tryz.checked) own started (by kernel_rfl) Tryz.func5
  (OpenSpec.witness (enc:=enc) (C:=Tryz.checked) (s:=Rows.OpenSpec.upto Rows.nodePairsSpec) (k:=Rows.uptoSmall) rfl false ⟨#[],#[.int .i64 0,.int .i64 0,.int .i64 0,.int .i64 0,.int .i64 0,.int .i64 0,.int .i64 0],[]⟩ 8 (by kernel_rfl) (by kernel_rfl) (by kernel_rfl)
   (x:=([.lit (.int .i64 0),.lit (.int .i64 0),.lit (.int .i64 0),.lit (.int .i64 0),.lit (.int .i64 0),.lit (.int .i64 0),.lit (.int .i64 0)],[],[])) (by kernel_rfl) rfl (by kernel_rfl))
  zvj (by kernel_rfl) rfl Tryz.underlying4 rfl (fun ds h=>by match ds,h with|[d0,d1,d2,d3,d4,d5,d6],_=>rfl) ?_
 intro W base args ds p hval0 hA0 hb
 have hval: ∀(j:Nat) t v,Tryz.f5.params[j]? =some t→args[j]? =some v→Value.okWide Tryz.prog W .any base t v:=hval0
 have hA:DataW.TrodAll enc Tryz.prog W 0 (fun _=>true) true Tryz.f5.params.toList args.toList ds p:=hA0
 rw[Tryz.params5]at hA hval
 clear hA0 hval0
 obtain⟨v0,vs0,d0,ds0,p0,q0,hargs,rfl,rfl,h0,r0⟩:=trodAll_cons hA
 obtain⟨v1,vs1,d1,ds1,p1,q1,rfl,rfl,rfl,h1,r1⟩:=trodAll_cons r0
 obtain⟨v2,vs2,d2,ds2,p2,q2,rfl,rfl,rfl,h2,r2⟩:=trodAll_cons r1
 obtain⟨v3,vs3,d3,ds3,p3,q3,rfl,rfl,rfl,h3,r3⟩:=trodAll_cons r2
 obtain⟨v4,vs4,d4,ds4,p4,q4,rfl,rfl,rfl,h4,r4⟩:=trodAll_cons r3
 obtain⟨v5,vs5,d5,ds5,p5,q5,rfl,rfl,rfl,h5,r5⟩:=trodAll_cons r4
 obtain⟨v6,vs6,d6,ds6,p6,q6,rfl,rfl,rfl,h6,r6⟩:=trodAll_cons r5
 obtain⟨rfl,rfl,rfl⟩:=trodAll_nil r6
 obtain rfl:=zfm hargs
 simp only[Rows.uptoBulkAll]at hb
 obtain⟨x0,g0,k0⟩:=zxj (hval 0 3 v0 rfl rfl) h0
 obtain⟨x1,g1,k1⟩:=zxj (hval 1 3 v1 rfl rfl) h1
 obtain⟨x2,g2,k2⟩:=zmD (hval 2 2 v2 rfl rfl) h2
 obtain⟨x3,g3,k3⟩:=zmD (hval 3 2 v3 rfl rfl) h3
 obtain⟨x4,g4,k4⟩:=zmD (hval 4 2 v4 rfl rfl) h4
 obtain⟨x5,g5,k5⟩:=zmD (hval 5 2 v5 rfl rfl) h5
 obtain⟨x6,g6,k6⟩:=zmD (hval 6 2 v6 rfl rfl) h6
 exact zn3 (law_c x0 x1 x2 x3 x4 x5 x6) W _ rfl (fun j v u hv hu=>by
  match j with
  |0=>cases hv;cases hu;exact k0
  |1=>cases hv;cases hu;exact k1
  |2=>cases hv;cases hu;exact k2
  |3=>cases hv;cases hu;exact k3
  |4=>cases hv;cases hu;exact k4
  |5=>cases hv;cases hu;exact k5
  |6=>cases hv;cases hu;exact k6
  |j+7=>cases hv)
theorem zzW:Rows.nodePairsUptoRow.inPlace=Tryz.prog.inPlace 5:=by kernel_rfl
theorem zug:Rows.nodePairsUptoRow.unfollowed=Tryz.prog.unfollowed 5:=by kernel_rfl
theorem zyJ:Rows.nodePairsUptoRow.recurses=Tryz.prog.recurses 5:=by rw[Program.recurses,←zug];rfl
theorem zzJ:Rows.nodePairsUptoRow.named=Tryz.prog.varsNamed 5:=by kernel_rfl
theorem zAT:joinedFacts Tryz.prog 5 Tryz.f5 (Rows.OpenSpec.upto Rows.nodePairsSpec).bare Rows.nodePairsUptoRow=true:=zrr zzW zug zyJ zzJ (by kernel_rfl)
theorem proved:Rows.NodePairsUptoSaid:=
 OpenClaim.holds_of_cond 5 Tryz.f5 rfl rfl rfl rfl rfl rfl rfl ⟨rfl,rfl,rfl,rfl,rfl⟩ rfl rfl rfl rfl rfl (by kernel_rfl) Tryz.func5 zAT
  (of_decide_eq_true (by kernel_rfl)) (by unfold Func.isWrapper;first|(rw[if_pos (by decide+kernel)];kernel_rfl)|(rw[if_neg (by decide+kernel)];exact⟨rfl,rfl⟩))
  (fun os started H enc _ F=>lifted os started H enc F)
end
end Go.Proofs.YtbcbnfiedgnfpaaGreat.nodePairs
