/- Parts: Nj. -/
import Derived.Test.YtfjbnpdffillbaaGreatDoorQ28
import Derived.Test.YtfjbnpdffillbaaGreatDoorRows
import Derived.LaidMore
import Derived.Stop.Joined
import Derived.Stop.LaidErr
import Derived.ProofKit
import Derived.Lib.LaidTab
namespace Go.Proofs.YtfjbnpdffillbaaGreatDoor
abbrev zOt:List (String × DataW Unit):=[("math/bits.deBruijn32tab",Rows.laid_math_bits_deBruijn32tab),("math/bits.deBruijn64tab",Rows.laid_math_bits_deBruijn64tab),("galley/bracket.apart",Rows.laid_galley_bracket_apart),("internal/strconv.uint64pow10",Rows.laid_internal_strconv_uint64pow10)]
theorem zN8 {W:World} (h:laidMetH Tryz.prog zOt W):zMw W:=by
 rw[MakeChecks.laidMetH_plain _ _ _ (by kernel_rfl)]at h
 have h1:=laidMet.tail h
 have h2:=laidMet.tail h1
 have h3:=laidMet.tail h2
 have p:zGz W:=Lib.tabIs_of_head (g:=1) (t:=265) (e:=74) (n:=20) (by kernel_rfl) (by kernel_rfl) Tryz.underlying265 Tryz.underlying74 (by kernel_rfl) (by kernel_rfl) h3
 have q:Lib.TabIs Tryz.prog W "galley/bracket.apart" .u8 [91,93,45,94]:=Lib.tabIs_of_head (g:=3) (t:=287) (e:=5) (n:=4) (by kernel_rfl) (by kernel_rfl) Tryz.underlying287 Tryz.underlying5 (by kernel_rfl) (by kernel_rfl) h2
 have r:Lib.TabIs Tryz.prog W "math/bits.deBruijn64tab" .u8 (Lib.deBruijn64tab.map fun n:Nat=>(n:Int)):=Lib.tabIs_of_head (g:=2) (t:=286) (e:=5) (n:=64) (by kernel_rfl) (by kernel_rfl) Tryz.underlying286 Tryz.underlying5 (by kernel_rfl) (by kernel_rfl) h1
 have gq:Tryz.prog.globalNamed "galley/bracket.apart" =some 3:=by kernel_rfl
 have gr:Tryz.prog.globalNamed "math/bits.deBruijn64tab" =some 2:=by kernel_rfl
 have c0:=q.cell gq 0 (by decide)
 exact⟨⟨zQC W _ c0,c0,q.cell gq 1 (by decide),q.cell gq 2 (by decide),q.cell gq 3 (by decide)⟩,fun j hj=>by
  have h:=r.cell gr j (by simpa using hj)
  have e:(Lib.deBruijn64tab.map fun n:Nat=>(n:Int)).getD j 0=((Lib.deBruijn64tab.getD j 0:Nat):Int):=by
   rw[zPo,zPo,List.getElem?_map,zPw hj];rfl
  rw[h,e],p⟩
end Go.Proofs.YtfjbnpdffillbaaGreatDoor
