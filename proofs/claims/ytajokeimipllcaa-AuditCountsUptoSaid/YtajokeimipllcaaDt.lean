/-
  The logic on data: what a walk's ends unfold.
-/
import Derived.Test.YtajokeimipllcaaDr
import Derived.Test.YtajokeimipllcaaDp
set_option linter.unusedSimpArgs false
set_option linter.unusedVariables false
namespace Go.Dl
attribute [simp] nm2 cN killV_C_p kV_C_p frzV_C_p rn_C_p noLoc wkSA wkBA wkAA wkVA wkS wkB wk cleA killC vle cle fle St.of St.ofA lkV lkB arrOf lkA' lkA_zero lkA_succ upd putS RetM onceA mkAL resV res1 parts part1 mvA pleA lkR killV_co killV_C_o killV_cf killV_B_n killV_B_s mvs mv mws mw ev entB entA freshL noArr vlesL vleL cleL killV_cu killV_ag killV_tu killV_lo killV_rd killV_un killV_no killV_cl killV_el killV_C_f killV_C_u killV_P killV_B_z killV_z kV_cf kV_cu kV_co kV_ag kV_tu kV_lo kV_rd kV_un kV_no kV_cl kV_el kV_C_o kV_C_f kV_C_u kV_P kV_B_s kV_B_n frzV_cf frzV_cu frzV_co frzV_ag frzV_tu frzV_lo frzV_rd frzV_un frzV_no frzV_cl frzV_el frzV_C_o frzV_C_f frzV_C_u frzV_P frzV_B_s frzV_B_n rn_c rn_ag rn_tu rn_lo rn_rd rn_un rn_cl rn_C_o rn_C_f rn_C_u rn_P rn_W_l rn_W_f rn_W_a rn_W_r kA_c fzC_f fzC_o fzC_u fzC_p fzC_m fzB_s fzB_n fzP_m fzV_loc fzV_clo fzV_c fzV_ag fzV_tu fzV_rd fzV_un fzV_no fzV_el fzW_loc fzW_f fzW_a fzW_rd
end Go.Dl
