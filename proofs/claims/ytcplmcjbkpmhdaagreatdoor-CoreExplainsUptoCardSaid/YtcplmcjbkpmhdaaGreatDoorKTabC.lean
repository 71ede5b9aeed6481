/- The table of powers, out of the laid row. -/
import Derived.Test.YtcplmcjbkpmhdaaGreatDoorKOpenSC
import Derived.Lib.LaidTab
set_option linter.unusedSimpArgs false
set_option linter.unusedVariables false
set_option linter.unnecessarySimpa false
namespace Go.Proofs.YtcplmcjbkpmhdaaGreatDoor
open Go.ChangeShapes Go.WideShapes Go.ChangeAt Go.RowKit
theorem pow_tab:(Rows.laid_internal_strconv_uint64pow10:DataW Unit)=Lib.tabData .u64 Lib.pow10Tab:=rfl
theorem tab_laid {W:World} (hL:laidMetH Tryz.prog [("math/bits.deBruijn32tab",Rows.laid_math_bits_deBruijn32tab),("math/bits.deBruijn64tab",Rows.laid_math_bits_deBruijn64tab),("internal/strconv.uint64pow10",Rows.laid_internal_strconv_uint64pow10),("testbench/lexer.keywords",Rows.laid_testbench_lexer_keywords)] W):Lib.TabIs Tryz.prog W "internal/strconv.uint64pow10" .u64 Lib.pow10Tab:=by
 have hL':laidMet Tryz.prog [("math/bits.deBruijn32tab",Rows.laid_math_bits_deBruijn32tab),("math/bits.deBruijn64tab",Rows.laid_math_bits_deBruijn64tab),("internal/strconv.uint64pow10",Rows.laid_internal_strconv_uint64pow10),("testbench/lexer.keywords",Rows.laid_testbench_lexer_keywords)] W:=hL
 obtain⟨ps,hv,_⟩:=hL'
 obtain⟨_,_,_,_,_,_,_,_,_,_,hv,_⟩:=hv
 obtain⟨_,_,_,_,_,_,_,_,_,_,hv,_⟩:=hv
 obtain⟨g',t',cs,fuel,p,q,hg',ht',hvar,hd,_,_⟩:=hv
 obtain rfl:=Option.some.inj ((show Tryz.prog.globalNamed "internal/strconv.uint64pow10"=some 2 by kernel_rfl).symm.trans hg')
 have hty:(Tryz.prog.globals[2]?).map (·.type)=some 269:=by kernel_rfl
 obtain rfl:=Option.some.inj (hty.symm.trans ht')
 unfold Lib.TabIs
 rw[pow_tab] at hd
 rw[hvar,← Lib.cells_of_tab Tryz.underlying269 Tryz.underlying229 (by kernel_rfl) (by kernel_rfl) hd]
end Go.Proofs.YtcplmcjbkpmhdaaGreatDoor
