import Derived.Test.YtbcbnfiedgnfpaaGreatZ25
set_option linter.unusedSimpArgs false
set_option linter.unusedVariables false
set_option maxRecDepth 100000
set_option maxHeartbeats 2000000
namespace Go.Proofs.YtbcbnfiedgnfpaaGreat
open Go.Dl
attribute [local irreducible] DW yE zY zA zu zky
attribute [local push_cast] zZ qF qC zN zM zD zE qH qE qz Go.Dl.qY yT qy List.mem_cons List.not_mem_nil or_false forall_eq false_implies implies_true
section
attribute [local simp] cv
abbrev cWk (n:zQ) (b1 b2 b3:Bool):List C:=[.f (eI n.id),.f (eI n.bt),.f (eI n.tk),.f (.l 1 (n.want.map Z3)),.f (eI n.tn),.f (.l 4 (n.seen.map QD)),.f (.l 6 (n.hv.map jI)),.f (.l 16 (n.ch.map QO)),.o 0,.o 1,.f (eB b1),.f (eB b2),.f (eB b3)]
abbrev yA (n:zQ) (b1 b2 b3:Bool):BL:=[(0,110,cWk n b1 b2 b3)]
abbrev qI (ps:List qO) (es:List ZF):RL:=[(0,30,8,ps.map yG),(1,38,4,es.map zeq)]
theorem JP (n:zQ) (ps:List qO) (es:List ZF) (e:ZF) (b1 b2 b3:Bool) (hb:es.length≤1000000000000):zA Tryz.prog 130 [.loc 0 0,gEv e] (yA n b1 b2 b3) (qI ps es) (.tup []) (yA n b1 b2 b3) (qI ps (es++[e])):=by
 refine emx [] Tryz.func130 fun XX X G w0=>?_
 repeat'(first|(refine spl ?_ ?_<;>(intro hb;refine ne ?_))|(refine zl hR ?_;clear hR)|refine s1 ?_|exact True.intro|fail|(refine s2 ?_;try with_reducible intro R hR)|fail)
 ((with_reducible refine zL fun R hR=>?_);refine zc0 rfl ?_)
 (refine zz 0 rfl hT (by decide) rfl rfl rfl (by decide+kernel) (by decide+kernel) (by decide+kernel) ?_;simp only[push_cast,seval, *])
 (refine zz 1 rfl hT (by decide) rfl rfl rfl (by decide+kernel) (by decide+kernel) (by decide+kernel) ?_;simp only[push_cast,seval, *])
 (refine zz 2 rfl hT (by decide) rfl rfl rfl (by decide+kernel) (by decide+kernel) (by decide+kernel) ?_;simp only[push_cast,seval, *])
 (refine zz 3 rfl hT (by decide) rfl rfl rfl (by decide+kernel) (by decide+kernel) (by decide+kernel) ?_;simp only[push_cast,seval, *])
 (refine qo [4,5] hT (by decide) (by decide+kernel) (by decide) ?_;simp only[ji];simp only[push_cast,seval, *])
 (repeat'(first|(with_reducible refine And.intro ?_ ?_)|(refine qo [5] hT (by decide) (by decide+kernel) (by decide) ?_;simp only[ji];simp only[push_cast,seval, *])|(refine qo [4] hT (by decide) (by decide+kernel) (by decide) ?_;simp only[ji];simp only[push_cast,seval, *])|(refine qo [6] hT (by decide) (by decide+kernel) (by decide) ?_;simp only[ji];simp only[push_cast,seval, *])|(refine qo [4,6] hT (by decide) (by decide+kernel) (by decide) ?_;simp only[ji];simp only[push_cast,seval, *])|(refine qo [7] hT (by decide) (by decide+kernel) (by decide) ?_;simp only[ji];simp only[push_cast,seval, *])|(refine qo [8] hT (by decide) (by decide+kernel) (by decide) ?_;simp only[ji];simp only[push_cast,seval, *])|(refine qo [9] hT (by decide) (by decide+kernel) (by decide) ?_;simp only[ji];simp only[push_cast,seval, *])|(refine qo [10] hT (by decide) (by decide+kernel) (by decide) ?_;simp only[ji];simp only[push_cast,seval, *])|(refine yh (by decide+kernel) ?_;refine zl (by assumption) ?_)))
 all_goals(first|(unfold maxLen;omega)|omega|exact fmx [(0,0),(1,11)]|skip)
 all_goals trace_state
theorem za8 (n:zQ) (ps:List qO) (es:List ZF) (e:qO) (b1 b2 b3:Bool) (hb:ps.length≤1000000000000):zA Tryz.prog 132 [.loc 0 0,ZJ e] (yA n b1 b2 b3) (qI ps es) (.tup []) (yA n b1 b2 b3) (qI (ps++[e]) es):=by
 refine emx [] Tryz.func132 fun XX X G w0=>?_
 repeat'(first|(refine spl ?_ ?_<;>(intro hb;refine ne ?_))|(refine zl hR ?_;clear hR)|refine s1 ?_|exact True.intro|fail|(refine s2 ?_;try with_reducible intro R hR)|fail)
 ((with_reducible refine zL fun R hR=>?_);refine zc0 rfl ?_)
 (refine zz 0 rfl hT (by decide) rfl rfl rfl (by decide+kernel) (by decide+kernel) (by decide+kernel) ?_;simp only[push_cast,seval, *])
 (refine zz 1 rfl hT (by decide) rfl rfl rfl (by decide+kernel) (by decide+kernel) (by decide+kernel) ?_;simp only[push_cast,seval, *])
 (refine zz 2 rfl hT (by decide) rfl rfl rfl (by decide+kernel) (by decide+kernel) (by decide+kernel) ?_;simp only[push_cast,seval, *])
 (refine zz 3 rfl hT (by decide) rfl rfl rfl (by decide+kernel) (by decide+kernel) (by decide+kernel) ?_;simp only[push_cast,seval, *])
 (refine qo [4,5] hT (by decide) (by decide+kernel) (by decide) ?_;simp only[ji];simp only[push_cast,seval, *])
 (repeat'(first|(with_reducible refine And.intro ?_ ?_)|(refine qo [5] hT (by decide) (by decide+kernel) (by decide) ?_;simp only[ji];simp only[push_cast,seval, *])|(refine qo [4] hT (by decide) (by decide+kernel) (by decide) ?_;simp only[ji];simp only[push_cast,seval, *])|(refine qo [6] hT (by decide) (by decide+kernel) (by decide) ?_;simp only[ji];simp only[push_cast,seval, *])|(refine qo [4,6] hT (by decide) (by decide+kernel) (by decide) ?_;simp only[ji];simp only[push_cast,seval, *])|(refine qo [7] hT (by decide) (by decide+kernel) (by decide) ?_;simp only[ji];simp only[push_cast,seval, *])|(refine qo [8] hT (by decide) (by decide+kernel) (by decide) ?_;simp only[ji];simp only[push_cast,seval, *])|(refine qo [9] hT (by decide) (by decide+kernel) (by decide) ?_;simp only[ji];simp only[push_cast,seval, *])|(refine qo [10] hT (by decide) (by decide+kernel) (by decide) ?_;simp only[ji];simp only[push_cast,seval, *])|(refine yh (by decide+kernel) ?_;refine zl (by assumption) ?_)))
 all_goals(first|(unfold maxLen;omega)|omega|exact fmx [(0,11),(1,1)]|skip)
 all_goals trace_state
end
section
attribute [local simp] cv jS
theorem Yn (n:zQ) (ps:List qO) (es:List ZF) (p:qO) (b1 b2 b3:Bool) (he:es.length≤1000000000000):zA Tryz.prog 59 [.loc 0 0,ZJ p] (yA n b1 b2 b3) (qI ps es) (.tup []) (yA n b1 b2 b3) (qI ps (es++[⟨6,p.fr,yI,p.kd⟩])):=by
 refine emx [] Tryz.func59 fun XX X G w0=>?_
 repeat'(first|(refine spl ?_ ?_<;>(intro hb;refine ne ?_))|(refine zl hR ?_;clear hR)|refine s1 ?_|exact True.intro|refine cM [(0,0)] [(0,0),(1,1)] (JP n ps es ⟨6,p.fr,yI,p.kd⟩ b1 b2 b3 he) ?_|(refine s2 ?_;try with_reducible intro R hR)|fail)
 all_goals exact fmx [(0,0),(1,1)]
theorem zo5 (n:zQ) (ps:List qO) (es:List ZF) (p:Int) (nm:ByteArray) (b1 b2 b3:Bool) (he:es.length≤1000000000000):zA Tryz.prog 266 [.loc 0 0,gI p,gS nm] (yA n b1 b2 b3) (qI ps es) (.tup []) (yA n b1 b2 b3) (qI ps (es++[⟨4,p,nm,0⟩])):=by
 refine emx [] Tryz.func266 fun XX X G w0=>?_
 repeat'(first|(refine spl ?_ ?_<;>(intro hb;refine ne ?_))|(refine zl hR ?_;clear hR)|refine s1 ?_|exact True.intro|refine cM [(0,0)] [(0,0),(1,1)] (JP n ps es ⟨4,p,nm,0⟩ b1 b2 b3 he) ?_|(refine s2 ?_;try with_reducible intro R hR)|fail)
 all_goals exact fmx [(0,0),(1,1)]
theorem YD (n:zQ) (ps:List qO) (es:List ZF) (h:Hf) (b1 b2 b3:Bool) (hF:zy n) (hl:h.lines.length≤1048576) (hp:0≤h.peer∧h.peer<16):zA Tryz.prog 188 [.loc 0 0,gH h] (yA n b1 b2 b3) (qI ps es) (.tup []) (yA (n.hvS (qu n.hv h)) b1 b2 b3) (qI ps es):=by
 refine emx [] Tryz.func188 fun XX X G w0=>?_
 repeat'(first|(refine spl ?_ ?_<;>(intro hb;refine ne ?_))|(refine zl hR ?_;clear hR)|refine s1 ?_|exact True.intro|refine rdb [] ?_|((with_reducible refine zL fun R hR=>?_);refine rdb [] ?_)|refine cad (zp8 n.hv h.peer h.boot h.life h.lines h.pend h.miss hF.hok hl hF.srt hF.rng hp) ?_|refine lat ?_|(refine s2 ?_;try with_reducible intro R hR)|fail)
 all_goals exact fmx [(0,0),(1,1)]
theorem zcd (n:zQ) (ps:List qO) (es:List ZF) (p:Int) (b1 b2 b3:Bool) (hF:zy n) (hp:I64 p):zA Tryz.prog 265 [.loc 0 0,gI p] (yA n b1 b2 b3) (qI ps es) (gH (findH p n.hv).1) (yA n b1 b2 b3) (qI ps es):=by
 refine emx [.cell 4 43] Tryz.func265 fun XX X G w0=>?_
 repeat'(first|(refine spl ?_ ?_<;>(intro hb;refine ne ?_))|(refine zl hR ?_;clear hR)|refine s1 ?_|exact True.intro|refine cal (jc n.hv p hF.hok hF.srt hF.rng hp) ?_|(refine s2 ?_;try with_reducible intro R hR)|fail)
 all_goals exact fmx [(0,0),(1,1)]
theorem zc3 (n:zQ) (ps:List qO) (es:List ZF) (kd:Int) (h:Hf) (b1 b2 b3:Bool) (hF:zy n):zA Tryz.prog 166 [.loc 0 0,gI kd,gH h] (yA n b1 b2 b3) (qI ps es) (ZJ (jS n kd h.peer h.boot h.life [])) (yA n b1 b2 b3) (qI ps es):=by
 have hl:=qt hF.seen
 refine emx [.cell 6 30] Tryz.func166 fun XX X G w0=>?_
 repeat'(first|(refine spl ?_ ?_<;>(intro hb;refine ne ?_))|(refine zl hR ?_;clear hR)|refine s1 ?_|exact True.intro|refine rdb [] ?_|((with_reducible refine zL fun R hR=>?_);refine rdb [] ?_)|refine cad (zeD n.seen h.peer hF.srtS (by omega)) ?_|refine lat ?_|(refine s2 ?_;try with_reducible intro R hR)|fail)
 all_goals exact fmx [(0,0),(1,1)]
theorem zeL (n:zQ) (ps:List qO) (es:List ZF) (p why:Int) (b1 b2 b3:Bool) (he:es.length≤1000000000000) (hF:zy n) (hp:I64 p):zA Tryz.prog 167 [.loc 0 0,gI p,gI why] (yA n b1 b2 b3) (qI ps es) (.tup []) (yA (yU n p) b1 b2 b3) (qI ps (es++[⟨2,p,yI,why⟩])):=by
 have hl:=qt hF.seen
 refine emx [] Tryz.func167 fun XX X G w0=>?_
 repeat'(first|(refine spl ?_ ?_<;>(intro hb;refine ne ?_))|(refine zl hR ?_;clear hR)|refine s1 ?_|exact True.intro|refine rdb [] ?_|((with_reducible refine zL fun R hR=>?_);refine rdb [] ?_)|refine cad (zgs n.hv p hF.hok hF.srt hF.rng hp) ?_|refine cad (zee n.id n.seen p hF.seen (by omega)) ?_|refine lat ?_|refine cal (zgs n.hv p hF.hok hF.srt hF.rng hp) ?_|refine cal (zee n.id n.seen p hF.seen (by omega)) ?_|refine cM [(0,0)] [(0,0),(1,1)] (JP ⟨n.id,n.bt,n.tk,n.want,n.tn,qh n.seen (QL (getS n.seen p)),(ZM p false n.hv).1,n.ch⟩ ps es ⟨2,p,yI,why⟩ b1 b2 b3 he) ?_|(refine s2 ?_;try with_reducible intro R hR)|fail)
 all_goals exact fmx [(0,0),(1,1)]
theorem ze5 (n:zQ) (ps:List qO) (es:List ZF) (c:Ch) (b1 b2 b3:Bool) (he:es.length≤1000000000000) (hF:HOk n.hv):zA Tryz.prog 145 [.loc 0 0,gC c] (yA n b1 b2 b3) (qI ps es) (.tup []) (yA (n.hvS (Qy n.hv c.nm)) b1 true b3) (qI ps (es++[⟨5,0,c.nm,c.ep⟩])):=by
 refine emx [] Tryz.func145 fun XX X G w0=>?_
 repeat'(first|(refine spl ?_ ?_<;>(intro hb;refine ne ?_))|(refine zl hR ?_;clear hR)|refine s1 ?_|exact True.intro|refine rdb [] ?_|((with_reducible refine zL fun R hR=>?_);refine rdb [] ?_)|refine cad (ziI n.hv c.nm hF) ?_|refine lat ?_|refine cM [(0,0)] [(0,0),(1,1)] (JP ⟨n.id,n.bt,n.tk,n.want,n.tn,n.seen,Qy n.hv c.nm,n.ch⟩ ps es ⟨5,0,c.nm,c.ep⟩ b1 true b3 he) ?_|(refine s2 ?_;try with_reducible intro R hR)|fail)
 all_goals exact fmx [(0,0),(1,1)]
end
section
attribute [local simp] cv jS
abbrev cRk (n:zQ):List C:=[.f (eI n.id),.f (eI n.bt),.f (eI n.tk),.f (.l 1 (n.want.map Z3)),.f (eI n.tn),.f (.l 4 (n.seen.map QD)),.f (.l 6 (n.hv.map jI)),.f (.l 16 (n.ch.map QO)),.o 0,.o 1]
abbrev jg (n:zQ):BL:=[(0,200,cRk n)]
theorem jT (n:zQ) (ps:List qO) (es:List ZF) (e:ZF) (he:es.length≤1000000000000):zA Tryz.prog 238 [.loc 0 0,gEv e] (jg n) (qI ps es) (.tup []) (jg n) (qI ps (es++[e])):=by
 refine emx [] Tryz.func238 fun XX X G w0=>?_
 repeat'(first|(refine spl ?_ ?_<;>(intro hb;refine ne ?_))|(refine zl hR ?_;clear hR)|refine s1 ?_|exact True.intro|fail|(refine s2 ?_;try with_reducible intro R hR)|fail)
 ((with_reducible refine zL fun R hR=>?_);refine zc0 rfl ?_)
 (refine zz 0 rfl hT (by decide) rfl rfl rfl (by decide+kernel) (by decide+kernel) (by decide+kernel) ?_;simp only[push_cast,seval, *])
 (refine zz 1 rfl hT (by decide) rfl rfl rfl (by decide+kernel) (by decide+kernel) (by decide+kernel) ?_;simp only[push_cast,seval, *])
 (refine zz 2 rfl hT (by decide) rfl rfl rfl (by decide+kernel) (by decide+kernel) (by decide+kernel) ?_;simp only[push_cast,seval, *])
 (refine zz 3 rfl hT (by decide) rfl rfl rfl (by decide+kernel) (by decide+kernel) (by decide+kernel) ?_;simp only[push_cast,seval, *])
 (refine qo [4,5] hT (by decide) (by decide+kernel) (by decide) ?_;simp only[ji];simp only[push_cast,seval, *])
 (repeat'(first|(with_reducible refine And.intro ?_ ?_)|(refine qo [5] hT (by decide) (by decide+kernel) (by decide) ?_;simp only[ji];simp only[push_cast,seval, *])|(refine qo [4] hT (by decide) (by decide+kernel) (by decide) ?_;simp only[ji];simp only[push_cast,seval, *])|(refine qo [6] hT (by decide) (by decide+kernel) (by decide) ?_;simp only[ji];simp only[push_cast,seval, *])|(refine qo [4,6] hT (by decide) (by decide+kernel) (by decide) ?_;simp only[ji];simp only[push_cast,seval, *])|(refine qo [7] hT (by decide) (by decide+kernel) (by decide) ?_;simp only[ji];simp only[push_cast,seval, *])|(refine qo [8] hT (by decide) (by decide+kernel) (by decide) ?_;simp only[ji];simp only[push_cast,seval, *])|(refine qo [9] hT (by decide) (by decide+kernel) (by decide) ?_;simp only[ji];simp only[push_cast,seval, *])|(refine qo [10] hT (by decide) (by decide+kernel) (by decide) ?_;simp only[ji];simp only[push_cast,seval, *])|(refine yh (by decide+kernel) ?_;refine zl (by assumption) ?_)))
 all_goals(first|(unfold maxLen;omega)|omega|exact fmx [(0,0),(1,11)]|skip)
theorem ZU (n:zQ) (ps:List qO) (es:List ZF) (e:qO) (he:ps.length≤1000000000000):zA Tryz.prog 171 [.loc 0 0,ZJ e] (jg n) (qI ps es) (.tup []) (jg n) (qI (ps++[e]) es):=by
 refine emx [] Tryz.func171 fun XX X G w0=>?_
 repeat'(first|(refine spl ?_ ?_<;>(intro hb;refine ne ?_))|(refine zl hR ?_;clear hR)|refine s1 ?_|exact True.intro|fail|(refine s2 ?_;try with_reducible intro R hR)|fail)
 ((with_reducible refine zL fun R hR=>?_);refine zc0 rfl ?_)
 (refine zz 0 rfl hT (by decide) rfl rfl rfl (by decide+kernel) (by decide+kernel) (by decide+kernel) ?_;simp only[push_cast,seval, *])
 (refine zz 1 rfl hT (by decide) rfl rfl rfl (by decide+kernel) (by decide+kernel) (by decide+kernel) ?_;simp only[push_cast,seval, *])
 (refine zz 2 rfl hT (by decide) rfl rfl rfl (by decide+kernel) (by decide+kernel) (by decide+kernel) ?_;simp only[push_cast,seval, *])
 (refine zz 3 rfl hT (by decide) rfl rfl rfl (by decide+kernel) (by decide+kernel) (by decide+kernel) ?_;simp only[push_cast,seval, *])
 (refine qo [4,5] hT (by decide) (by decide+kernel) (by decide) ?_;simp only[ji];simp only[push_cast,seval, *])
 (repeat'(first|(with_reducible refine And.intro ?_ ?_)|(refine qo [5] hT (by decide) (by decide+kernel) (by decide) ?_;simp only[ji];simp only[push_cast,seval, *])|(refine qo [4] hT (by decide) (by decide+kernel) (by decide) ?_;simp only[ji];simp only[push_cast,seval, *])|(refine qo [6] hT (by decide) (by decide+kernel) (by decide) ?_;simp only[ji];simp only[push_cast,seval, *])|(refine qo [4,6] hT (by decide) (by decide+kernel) (by decide) ?_;simp only[ji];simp only[push_cast,seval, *])|(refine qo [7] hT (by decide) (by decide+kernel) (by decide) ?_;simp only[ji];simp only[push_cast,seval, *])|(refine qo [8] hT (by decide) (by decide+kernel) (by decide) ?_;simp only[ji];simp only[push_cast,seval, *])|(refine qo [9] hT (by decide) (by decide+kernel) (by decide) ?_;simp only[ji];simp only[push_cast,seval, *])|(refine qo [10] hT (by decide) (by decide+kernel) (by decide) ?_;simp only[ji];simp only[push_cast,seval, *])|(refine yh (by decide+kernel) ?_;refine zl (by assumption) ?_)))
 all_goals(first|(unfold maxLen;omega)|omega|exact fmx [(0,11),(1,1)]|skip)
theorem ZA (n:zQ) (ps:List qO) (es:List ZF) (kd p ec el:Int) (hF:zy n):zA Tryz.prog 172 [.loc 0 0,gI kd,gI p,gI ec,gI el] (jg n) (qI ps es) (ZJ (jS n kd p ec el [])) (jg n) (qI ps es):=by
 have hl:=qt hF.seen
 refine emx [.cell 10 30] Tryz.func172 fun XX X G w0=>?_
 repeat'(first|(refine spl ?_ ?_<;>(intro hb;refine ne ?_))|(refine zl hR ?_;clear hR)|refine s1 ?_|exact True.intro|refine rdb [] ?_|refine cal (jD n.seen p (by omega)) ?_|refine cad (jD n.seen p (by omega)) ?_|refine lat ?_|(refine s2 ?_;try with_reducible intro R hR)|fail)
 all_goals(first|exact fmx [(0,0),(1,1)]|trace_state)
theorem ziT (n:zQ) (ps:List qO) (es:List ZF) (p why:Int) (he:es.length≤1000000000000) (hF:zy n):zA Tryz.prog 173 [.loc 0 0,gI p,gI why] (jg n) (qI ps es) (.tup []) (jg (yU n p)) (qI ps (es++[⟨2,p,yI,why⟩])):=by
 have hl:=qt hF.seen
 have hok:=hF.hok
 refine emx [] Tryz.func173 fun XX X G w0=>?_
 repeat'(first|(refine spl ?_ ?_<;>(intro hb;refine ne ?_))|(refine zl hR ?_;clear hR)|refine s1 ?_|exact True.intro|refine rdb [] ?_|((with_reducible refine zL fun R hR=>?_);refine rdb [] ?_)|refine cal (zdY n.hv p hok) ?_|refine cal (zaz n.seen p (by omega)) ?_|refine cad (zaz n.seen p (by omega)) ?_|refine lat ?_|refine cM [(0,0)] [(0,0),(1,1)] (jT ⟨n.id,n.bt,n.tk,n.want,n.tn,qh n.seen (QL (getS n.seen p)),(ZM p false n.hv).1,n.ch⟩ ps es ⟨2,p,yI,why⟩ he) ?_|(refine s2 ?_;try with_reducible intro R hR)|fail)
 all_goals(first|exact fmx [(0,0),(1,1)]|trace_state)
end
end Go.Proofs.YtbcbnfiedgnfpaaGreat
