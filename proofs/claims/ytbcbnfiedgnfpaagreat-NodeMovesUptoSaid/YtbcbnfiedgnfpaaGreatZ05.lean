import Derived.Test.YtbcbnfiedgnfpaaGreatZ02
import Derived.Test.YtbcbnfiedgnfpaaGreatProg
set_option linter.unusedSimpArgs false
set_option linter.unusedVariables false
set_option maxRecDepth 100000
set_option maxHeartbeats 2000000
namespace Go.Proofs.YtbcbnfiedgnfpaaGreat
open Go.Dl
def TT:List (Nat×Ty):=[(1,⟨1,false,[],none,none,[],[.nilFunc]⟩),(2,⟨1,false,[],none,some (.int .i64),[],[.int .i64 0]⟩),(3,⟨1,false,[],none,some (.int .i64),[],[.int .i64 0]⟩),(4,⟨1,false,[],none,some .bool,[],[.bool false]⟩),(5,⟨1,false,[],none,some (.int .u8),[],[.int .u8 0]⟩),(9,⟨1,false,[],none,some .str,[],[.string ⟨#[]⟩]⟩),(22,⟨1,false,[],some (3,1,8),none,[],[.slice none 0 0]⟩),(23,⟨1,false,[],some (94,4,32),none,[],[.slice none 0 0]⟩),(24,⟨1,false,[],some (43,6,64),none,[],[.slice none 0 0]⟩),(25,⟨1,false,[],some (101,16,136),none,[],[.slice none 0 0]⟩),(27,⟨8,true,[(0,1),(1,1),(2,1),(3,1),(4,1),(5,1),(6,1),(7,1)],none,none,[3,2,2,22,3,23,24,25],[.int .i64 0,.int .i64 0,.int .i64 0,.slice none 0 0,.int .i64 0,.slice none 0 0,.slice none 0 0,.slice none 0 0]⟩),(28,⟨1,false,[],some (136,19,160),none,[],[.slice none 0 0]⟩),(30,⟨8,true,[(0,1),(1,1),(2,1),(3,1),(4,1),(5,1),(6,1),(7,1)],none,none,[3,3,3,2,2,2,2,28],[.int .i64 0,.int .i64 0,.int .i64 0,.int .i64 0,.int .i64 0,.int .i64 0,.int .i64 0,.slice none 0 0]⟩),(33,⟨1,false,[],some (30,8,80),none,[],[.slice none 0 0]⟩),(34,⟨1,false,[],some (38,4,40),none,[],[.slice none 0 0]⟩),(38,⟨4,true,[(0,1),(1,1),(2,1),(3,1)],none,none,[3,3,9,2],[.int .i64 0,.int .i64 0,.string ⟨#[]⟩,.int .i64 0]⟩),(41,⟨1,false,[],some (105,4,40),none,[],[.slice none 0 0]⟩),(43,⟨6,true,[(0,1),(1,1),(2,1),(3,1),(4,1),(5,1)],none,none,[3,2,2,41,4,3],[.int .i64 0,.int .i64 0,.int .i64 0,.slice none 0 0,.bool false,.int .i64 0]⟩),(47,⟨3,true,[(0,1),(1,1),(2,1)],none,none,[2,3,2],[.int .i64 0,.int .i64 0,.int .i64 0]⟩),(49,⟨1,false,[],none,some (.int .i64),[],[.int .i64 0]⟩),(68,⟨4,true,[(0,1),(1,1),(2,1),(3,1)],none,none,[4,2,3,2],[.bool false,.int .i64 0,.int .i64 0,.int .i64 0]⟩),(80,⟨11,true,[(0,8),(8,1),(9,1),(10,1)],none,none,[27,33,34,3],[.int .i64 0,.int .i64 0,.int .i64 0,.slice none 0 0,.int .i64 0,.slice none 0 0,.slice none 0 0,.slice none 0 0,.slice none 0 0,.slice none 0 0,.int .i64 0]⟩),(83,⟨13,true,[(0,1),(1,1),(2,1),(3,1),(4,1),(5,8)],none,none,[3,3,9,3,2,30],[.int .i64 0,.int .i64 0,.string ⟨#[]⟩,.int .i64 0,.int .i64 0,.int .i64 0,.int .i64 0,.int .i64 0,.int .i64 0,.int .i64 0,.int .i64 0,.int .i64 0,.slice none 0 0]⟩),(85,⟨1,false,[],some (83,13,128),none,[],[.slice none 0 0]⟩),(94,⟨4,true,[(0,1),(1,1),(2,1),(3,1)],none,none,[3,2,2,2],[.int .i64 0,.int .i64 0,.int .i64 0,.int .i64 0]⟩),(99,⟨6,true,[(0,1),(1,1),(2,1),(3,1),(4,1),(5,1)],none,none,[9,2,3,4,3,2],[.string ⟨#[]⟩,.int .i64 0,.int .i64 0,.bool false,.int .i64 0,.int .i64 0]⟩),(101,⟨16,true,[(0,6),(6,1),(7,1),(8,4),(12,4)],none,none,[99,4,2,68,68],[.string ⟨#[]⟩,.int .i64 0,.int .i64 0,.bool false,.int .i64 0,.int .i64 0,.bool false,.int .i64 0,.bool false,.int .i64 0,.int .i64 0,.int .i64 0,.bool false,.int .i64 0,.int .i64 0,.int .i64 0]⟩),(105,⟨4,true,[(0,1),(1,3)],none,none,[9,47],[.string ⟨#[]⟩,.int .i64 0,.int .i64 0,.int .i64 0]⟩),(106,⟨1,false,[],none,none,[],[.nilFunc]⟩),(108,⟨1,false,[],none,none,[],[.pointer none]⟩),(110,⟨13,true,[(0,8),(8,1),(9,1),(10,1),(11,1),(12,1)],none,none,[27,33,34,4,4,4],[.int .i64 0,.int .i64 0,.int .i64 0,.slice none 0 0,.int .i64 0,.slice none 0 0,.slice none 0 0,.slice none 0 0,.slice none 0 0,.slice none 0 0,.bool false,.bool false,.bool false]⟩),(111,⟨1,false,[],none,none,[],[.nilFunc]⟩),(133,⟨1,false,[],none,none,[],[.nilFunc]⟩),(136,⟨19,true,[(0,6),(6,3),(9,1),(10,1),(11,4),(15,4)],none,none,[99,47,4,2,68,68],[.string ⟨#[]⟩,.int .i64 0,.int .i64 0,.bool false,.int .i64 0,.int .i64 0,.int .i64 0,.int .i64 0,.int .i64 0,.bool false,.int .i64 0,.bool false,.int .i64 0,.int .i64 0,.int .i64 0,.bool false,.int .i64 0,.int .i64 0,.int .i64 0]⟩),(154,⟨1,false,[],some (99,6,56),none,[],[.slice none 0 0]⟩),(165,⟨1,false,[],none,none,[],[.nilFunc]⟩),(166,⟨1,false,[],none,none,[],[.nilFunc]⟩),(168,⟨1,false,[],none,none,[],[.nilFunc]⟩),(182,⟨2,true,[(0,1),(1,1)],none,none,[2,2],[.int .i64 0,.int .i64 0]⟩),(184,⟨4,true,[(0,2),(2,1),(3,1)],none,none,[182,3,2],[.int .i64 0,.int .i64 0,.int .i64 0,.int .i64 0]⟩),(198,⟨1,false,[],none,none,[],[.pointer none]⟩),(200,⟨10,true,[(0,8),(8,1),(9,1)],none,none,[27,33,34],[.int .i64 0,.int .i64 0,.int .i64 0,.slice none 0 0,.int .i64 0,.slice none 0 0,.slice none 0 0,.slice none 0 0,.slice none 0 0,.slice none 0 0]⟩),(224,⟨1,false,[],none,none,[],[.pointer none]⟩),(225,⟨1,false,[],none,none,[],[.nilFunc]⟩),(226,⟨1,false,[],none,none,[],[.nilFunc]⟩),(227,⟨1,false,[],none,none,[],[.nilFunc]⟩),(228,⟨1,false,[],none,none,[],[.nilFunc]⟩),(232,⟨1,false,[],none,none,[],[.nilFunc]⟩),(237,⟨1,false,[],none,none,[],[.nilFunc]⟩),(240,⟨1,false,[],none,none,[],[.pointer none]⟩),(242,⟨2,true,[(0,1),(1,1)],none,none,[2,49],[.int .i64 0,.int .i64 0]⟩),(243,⟨1,false,[],some (247,2,16),none,[],[.slice none 0 0]⟩),(245,⟨1,false,[],none,none,[],[.nilFunc]⟩),(247,⟨2,true,[(0,1),(1,1)],none,none,[3,245],[.int .i64 0,.nilFunc]⟩),(248,⟨1,false,[],none,none,[],[.nilFunc]⟩),(251,⟨1,false,[],some (254,2,16),none,[],[.slice none 0 0]⟩),(254,⟨2,true,[(0,1),(1,1)],none,none,[3,2],[.int .i64 0,.int .i64 0]⟩),(257,⟨1,false,[],none,none,[],[.nilFunc]⟩),(258,⟨1,false,[],none,none,[],[.nilFunc]⟩),(272,⟨1,false,[],none,none,[],[.nilFunc]⟩),(273,⟨1,false,[],none,none,[],[.nilFunc]⟩),(275,⟨1,false,[],none,none,[],[.pointer none]⟩),(278,⟨7,true,[(0,6),(6,1)],none,none,[43,22],[.int .i64 0,.int .i64 0,.int .i64 0,.slice none 0 0,.bool false,.int .i64 0,.slice none 0 0]⟩),(290,⟨1,false,[],none,none,[],[.nilFunc]⟩),(291,⟨1,false,[],none,none,[],[.nilFunc]⟩),(293,⟨1,false,[],none,none,[],[.pointer none]⟩),(295,⟨2,true,[(0,1),(1,1)],none,none,[2,3],[.int .i64 0,.int .i64 0]⟩),(297,⟨8,true,[(0,2),(2,6)],none,none,[295,99],[.int .i64 0,.int .i64 0,.string ⟨#[]⟩,.int .i64 0,.int .i64 0,.bool false,.int .i64 0,.int .i64 0]⟩),(303,⟨1,false,[],none,none,[],[.nilFunc]⟩),(305,⟨1,false,[],none,none,[],[.nilFunc]⟩),(306,⟨1,false,[],none,none,[],[.nilFunc]⟩),(307,⟨1,false,[],none,none,[],[.nilFunc]⟩),(309,⟨1,false,[],none,none,[],[.nilFunc]⟩),(318,⟨1,false,[],none,none,[],[.nilFunc]⟩),(321,⟨1,false,[],none,none,[],[.nilFunc]⟩),(326,⟨1,false,[],none,none,[],[.nilFunc]⟩),(327,⟨1,false,[],none,none,[],[.nilFunc]⟩),(334,⟨1,false,[],none,some (.int .u64),[],[.int .u64 0]⟩),(347,⟨1,false,[],none,none,[],[.nilFunc]⟩),(348,⟨1,false,[],none,none,[],[.nilFunc]⟩)]
theorem zAN:ztc Tryz.prog TT=true:=by kernel_rfl
theorem hT: ∀t y,yW TT t=some y→q9 Tryz.prog t y:=fun _ _ h=>zsF zAN h
theorem tt1:yW TT 1=some ⟨1,false,[],none,none,[],[.nilFunc]⟩:=by kernel_rfl
theorem tt2:yW TT 2=some ⟨1,false,[],none,some (.int .i64),[],[.int .i64 0]⟩:=by kernel_rfl
theorem tt3:yW TT 3=some ⟨1,false,[],none,some (.int .i64),[],[.int .i64 0]⟩:=by kernel_rfl
theorem tt4:yW TT 4=some ⟨1,false,[],none,some .bool,[],[.bool false]⟩:=by kernel_rfl
theorem tt5:yW TT 5=some ⟨1,false,[],none,some (.int .u8),[],[.int .u8 0]⟩:=by kernel_rfl
theorem tt9:yW TT 9=some ⟨1,false,[],none,some .str,[],[.string ⟨#[]⟩]⟩:=by kernel_rfl
theorem znB:yW TT 22=some ⟨1,false,[],some (3,1,8),none,[],[.slice none 0 0]⟩:=by kernel_rfl
theorem ztX:yW TT 23=some ⟨1,false,[],some (94,4,32),none,[],[.slice none 0 0]⟩:=by kernel_rfl
theorem zCg:yW TT 24=some ⟨1,false,[],some (43,6,64),none,[],[.slice none 0 0]⟩:=by kernel_rfl
theorem zuK:yW TT 25=some ⟨1,false,[],some (101,16,136),none,[],[.slice none 0 0]⟩:=by kernel_rfl
theorem zCc:yW TT 27=some ⟨8,true,[(0,1),(1,1),(2,1),(3,1),(4,1),(5,1),(6,1),(7,1)],none,none,[3,2,2,22,3,23,24,25],[.int .i64 0,.int .i64 0,.int .i64 0,.slice none 0 0,.int .i64 0,.slice none 0 0,.slice none 0 0,.slice none 0 0]⟩:=by kernel_rfl
theorem zB6:yW TT 28=some ⟨1,false,[],some (136,19,160),none,[],[.slice none 0 0]⟩:=by kernel_rfl
theorem zCj:yW TT 30=some ⟨8,true,[(0,1),(1,1),(2,1),(3,1),(4,1),(5,1),(6,1),(7,1)],none,none,[3,3,3,2,2,2,2,28],[.int .i64 0,.int .i64 0,.int .i64 0,.int .i64 0,.int .i64 0,.int .i64 0,.int .i64 0,.slice none 0 0]⟩:=by kernel_rfl
theorem zCa:yW TT 33=some ⟨1,false,[],some (30,8,80),none,[],[.slice none 0 0]⟩:=by kernel_rfl
theorem zCt:yW TT 34=some ⟨1,false,[],some (38,4,40),none,[],[.slice none 0 0]⟩:=by kernel_rfl
theorem zCl:yW TT 38=some ⟨4,true,[(0,1),(1,1),(2,1),(3,1)],none,none,[3,3,9,2],[.int .i64 0,.int .i64 0,.string ⟨#[]⟩,.int .i64 0]⟩:=by kernel_rfl
theorem zsf:yW TT 41=some ⟨1,false,[],some (105,4,40),none,[],[.slice none 0 0]⟩:=by kernel_rfl
theorem zB2:yW TT 43=some ⟨6,true,[(0,1),(1,1),(2,1),(3,1),(4,1),(5,1)],none,none,[3,2,2,41,4,3],[.int .i64 0,.int .i64 0,.int .i64 0,.slice none 0 0,.bool false,.int .i64 0]⟩:=by kernel_rfl
theorem zCs:yW TT 47=some ⟨3,true,[(0,1),(1,1),(2,1)],none,none,[2,3,2],[.int .i64 0,.int .i64 0,.int .i64 0]⟩:=by kernel_rfl
theorem zCC:yW TT 49=some ⟨1,false,[],none,some (.int .i64),[],[.int .i64 0]⟩:=by kernel_rfl
theorem zCA:yW TT 68=some ⟨4,true,[(0,1),(1,1),(2,1),(3,1)],none,none,[4,2,3,2],[.bool false,.int .i64 0,.int .i64 0,.int .i64 0]⟩:=by kernel_rfl
theorem zB4:yW TT 80=some ⟨11,true,[(0,8),(8,1),(9,1),(10,1)],none,none,[27,33,34,3],[.int .i64 0,.int .i64 0,.int .i64 0,.slice none 0 0,.int .i64 0,.slice none 0 0,.slice none 0 0,.slice none 0 0,.slice none 0 0,.slice none 0 0,.int .i64 0]⟩:=by kernel_rfl
theorem zCd:yW TT 83=some ⟨13,true,[(0,1),(1,1),(2,1),(3,1),(4,1),(5,8)],none,none,[3,3,9,3,2,30],[.int .i64 0,.int .i64 0,.string ⟨#[]⟩,.int .i64 0,.int .i64 0,.int .i64 0,.int .i64 0,.int .i64 0,.int .i64 0,.int .i64 0,.int .i64 0,.int .i64 0,.slice none 0 0]⟩:=by kernel_rfl
theorem zCb:yW TT 85=some ⟨1,false,[],some (83,13,128),none,[],[.slice none 0 0]⟩:=by kernel_rfl
theorem zCz:yW TT 94=some ⟨4,true,[(0,1),(1,1),(2,1),(3,1)],none,none,[3,2,2,2],[.int .i64 0,.int .i64 0,.int .i64 0,.int .i64 0]⟩:=by kernel_rfl
theorem zB8:yW TT 99=some ⟨6,true,[(0,1),(1,1),(2,1),(3,1),(4,1),(5,1)],none,none,[9,2,3,4,3,2],[.string ⟨#[]⟩,.int .i64 0,.int .i64 0,.bool false,.int .i64 0,.int .i64 0]⟩:=by kernel_rfl
theorem zAQ:yW TT 101=some ⟨16,true,[(0,6),(6,1),(7,1),(8,4),(12,4)],none,none,[99,4,2,68,68],[.string ⟨#[]⟩,.int .i64 0,.int .i64 0,.bool false,.int .i64 0,.int .i64 0,.bool false,.int .i64 0,.bool false,.int .i64 0,.int .i64 0,.int .i64 0,.bool false,.int .i64 0,.int .i64 0,.int .i64 0]⟩:=by kernel_rfl
theorem zAy:yW TT 105=some ⟨4,true,[(0,1),(1,3)],none,none,[9,47],[.string ⟨#[]⟩,.int .i64 0,.int .i64 0,.int .i64 0]⟩:=by kernel_rfl
theorem zBk:yW TT 106=some ⟨1,false,[],none,none,[],[.nilFunc]⟩:=by kernel_rfl
theorem zA6:yW TT 108=some ⟨1,false,[],none,none,[],[.pointer none]⟩:=by kernel_rfl
theorem zBc:yW TT 110=some ⟨13,true,[(0,8),(8,1),(9,1),(10,1),(11,1),(12,1)],none,none,[27,33,34,4,4,4],[.int .i64 0,.int .i64 0,.int .i64 0,.slice none 0 0,.int .i64 0,.slice none 0 0,.slice none 0 0,.slice none 0 0,.slice none 0 0,.slice none 0 0,.bool false,.bool false,.bool false]⟩:=by kernel_rfl
theorem zAH:yW TT 111=some ⟨1,false,[],none,none,[],[.nilFunc]⟩:=by kernel_rfl
theorem zBJ:yW TT 133=some ⟨1,false,[],none,none,[],[.nilFunc]⟩:=by kernel_rfl
theorem zAU:yW TT 136=some ⟨19,true,[(0,6),(6,3),(9,1),(10,1),(11,4),(15,4)],none,none,[99,47,4,2,68,68],[.string ⟨#[]⟩,.int .i64 0,.int .i64 0,.bool false,.int .i64 0,.int .i64 0,.int .i64 0,.int .i64 0,.int .i64 0,.bool false,.int .i64 0,.bool false,.int .i64 0,.int .i64 0,.int .i64 0,.bool false,.int .i64 0,.int .i64 0,.int .i64 0]⟩:=by kernel_rfl
theorem zsX:yW TT 154=some ⟨1,false,[],some (99,6,56),none,[],[.slice none 0 0]⟩:=by kernel_rfl
theorem zBi:yW TT 165=some ⟨1,false,[],none,none,[],[.nilFunc]⟩:=by kernel_rfl
theorem zAA:yW TT 166=some ⟨1,false,[],none,none,[],[.nilFunc]⟩:=by kernel_rfl
theorem zBu:yW TT 168=some ⟨1,false,[],none,none,[],[.nilFunc]⟩:=by kernel_rfl
theorem zAV:yW TT 182=some ⟨2,true,[(0,1),(1,1)],none,none,[2,2],[.int .i64 0,.int .i64 0]⟩:=by kernel_rfl
theorem zBK:yW TT 184=some ⟨4,true,[(0,2),(2,1),(3,1)],none,none,[182,3,2],[.int .i64 0,.int .i64 0,.int .i64 0,.int .i64 0]⟩:=by kernel_rfl
theorem zBM:yW TT 198=some ⟨1,false,[],none,none,[],[.pointer none]⟩:=by kernel_rfl
theorem zBm:yW TT 200=some ⟨10,true,[(0,8),(8,1),(9,1)],none,none,[27,33,34],[.int .i64 0,.int .i64 0,.int .i64 0,.slice none 0 0,.int .i64 0,.slice none 0 0,.slice none 0 0,.slice none 0 0,.slice none 0 0,.slice none 0 0]⟩:=by kernel_rfl
theorem zAK:yW TT 224=some ⟨1,false,[],none,none,[],[.pointer none]⟩:=by kernel_rfl
theorem zAJ:yW TT 225=some ⟨1,false,[],none,none,[],[.nilFunc]⟩:=by kernel_rfl
theorem zBN:yW TT 226=some ⟨1,false,[],none,none,[],[.nilFunc]⟩:=by kernel_rfl
theorem zAt:yW TT 227=some ⟨1,false,[],none,none,[],[.nilFunc]⟩:=by kernel_rfl
theorem zBO:yW TT 228=some ⟨1,false,[],none,none,[],[.nilFunc]⟩:=by kernel_rfl
theorem zBe:yW TT 232=some ⟨1,false,[],none,none,[],[.nilFunc]⟩:=by kernel_rfl
theorem zAE:yW TT 237=some ⟨1,false,[],none,none,[],[.nilFunc]⟩:=by kernel_rfl
theorem zBF:yW TT 240=some ⟨1,false,[],none,none,[],[.pointer none]⟩:=by kernel_rfl
theorem zBd:yW TT 242=some ⟨2,true,[(0,1),(1,1)],none,none,[2,49],[.int .i64 0,.int .i64 0]⟩:=by kernel_rfl
theorem zAG:yW TT 243=some ⟨1,false,[],some (247,2,16),none,[],[.slice none 0 0]⟩:=by kernel_rfl
theorem zBx:yW TT 245=some ⟨1,false,[],none,none,[],[.nilFunc]⟩:=by kernel_rfl
theorem zBP:yW TT 247=some ⟨2,true,[(0,1),(1,1)],none,none,[3,245],[.int .i64 0,.nilFunc]⟩:=by kernel_rfl
theorem zA0:yW TT 248=some ⟨1,false,[],none,none,[],[.nilFunc]⟩:=by kernel_rfl
theorem zBj:yW TT 251=some ⟨1,false,[],some (254,2,16),none,[],[.slice none 0 0]⟩:=by kernel_rfl
theorem zA1:yW TT 254=some ⟨2,true,[(0,1),(1,1)],none,none,[3,2],[.int .i64 0,.int .i64 0]⟩:=by kernel_rfl
theorem zAI:yW TT 257=some ⟨1,false,[],none,none,[],[.nilFunc]⟩:=by kernel_rfl
theorem zBo:yW TT 258=some ⟨1,false,[],none,none,[],[.nilFunc]⟩:=by kernel_rfl
theorem zBH:yW TT 272=some ⟨1,false,[],none,none,[],[.nilFunc]⟩:=by kernel_rfl
theorem zA7:yW TT 273=some ⟨1,false,[],none,none,[],[.nilFunc]⟩:=by kernel_rfl
theorem zBn:yW TT 275=some ⟨1,false,[],none,none,[],[.pointer none]⟩:=by kernel_rfl
theorem zBS:yW TT 278=some ⟨7,true,[(0,6),(6,1)],none,none,[43,22],[.int .i64 0,.int .i64 0,.int .i64 0,.slice none 0 0,.bool false,.int .i64 0,.slice none 0 0]⟩:=by kernel_rfl
theorem zA5:yW TT 290=some ⟨1,false,[],none,none,[],[.nilFunc]⟩:=by kernel_rfl
theorem zAu:yW TT 291=some ⟨1,false,[],none,none,[],[.nilFunc]⟩:=by kernel_rfl
theorem zAW:yW TT 293=some ⟨1,false,[],none,none,[],[.pointer none]⟩:=by kernel_rfl
theorem zAY:yW TT 295=some ⟨2,true,[(0,1),(1,1)],none,none,[2,3],[.int .i64 0,.int .i64 0]⟩:=by kernel_rfl
theorem zBw:yW TT 297=some ⟨8,true,[(0,2),(2,6)],none,none,[295,99],[.int .i64 0,.int .i64 0,.string ⟨#[]⟩,.int .i64 0,.int .i64 0,.bool false,.int .i64 0,.int .i64 0]⟩:=by kernel_rfl
theorem zAS:yW TT 303=some ⟨1,false,[],none,none,[],[.nilFunc]⟩:=by kernel_rfl
theorem zBr:yW TT 305=some ⟨1,false,[],none,none,[],[.nilFunc]⟩:=by kernel_rfl
theorem zAx:yW TT 306=some ⟨1,false,[],none,none,[],[.nilFunc]⟩:=by kernel_rfl
theorem zAZ:yW TT 307=some ⟨1,false,[],none,none,[],[.nilFunc]⟩:=by kernel_rfl
theorem zBQ:yW TT 309=some ⟨1,false,[],none,none,[],[.nilFunc]⟩:=by kernel_rfl
theorem zA9:yW TT 318=some ⟨1,false,[],none,none,[],[.nilFunc]⟩:=by kernel_rfl
theorem zBD:yW TT 321=some ⟨1,false,[],none,none,[],[.nilFunc]⟩:=by kernel_rfl
theorem zAD:yW TT 326=some ⟨1,false,[],none,none,[],[.nilFunc]⟩:=by kernel_rfl
theorem zBy:yW TT 327=some ⟨1,false,[],none,none,[],[.nilFunc]⟩:=by kernel_rfl
theorem zBv:yW TT 334=some ⟨1,false,[],none,some (.int .u64),[],[.int .u64 0]⟩:=by kernel_rfl
theorem zAB:yW TT 347=some ⟨1,false,[],none,none,[],[.nilFunc]⟩:=by kernel_rfl
theorem zAR:yW TT 348=some ⟨1,false,[],none,none,[],[.nilFunc]⟩:=by kernel_rfl
end Go.Proofs.YtbcbnfiedgnfpaaGreat
