/- What the reference's l04Frac answers for the 33rd to 48th of the first 64 primes (cube roots), each reckoned by the kernel; no conditions. -/
import Derived.Test.YtcgkfijigjcmpaaPFnExactShax2
import Derived.KernelRfl
namespace Go.Proofs.Ytcgkfijigjcmpaa.Pure
open Go.RowKit Go.Proofs.Ytcgkfijigjcmpaa.PFnExactSha
set_option maxRecDepth 100000
theorem cube32 : spec_l04Frac.f 200 137 3 = some 666307205 := by kernel_rfl
theorem cube33 : spec_l04Frac.f 200 139 3 = some 773529912 := by kernel_rfl
theorem cube34 : spec_l04Frac.f 200 149 3 = some 1294757372 := by kernel_rfl
theorem cube35 : spec_l04Frac.f 200 151 3 = some 1396182291 := by kernel_rfl
theorem cube36 : spec_l04Frac.f 200 157 3 = some 1695183700 := by kernel_rfl
theorem cube37 : spec_l04Frac.f 200 163 3 = some 1986661051 := by kernel_rfl
theorem cube38 : spec_l04Frac.f 200 167 3 = some 2177026350 := by kernel_rfl
theorem cube39 : spec_l04Frac.f 200 173 3 = some 2456956037 := by kernel_rfl
theorem cube40 : spec_l04Frac.f 200 179 3 = some 2730485921 := by kernel_rfl
theorem cube41 : spec_l04Frac.f 200 181 3 = some 2820302411 := by kernel_rfl
theorem cube42 : spec_l04Frac.f 200 191 3 = some 3259730800 := by kernel_rfl
theorem cube43 : spec_l04Frac.f 200 193 3 = some 3345764771 := by kernel_rfl
theorem cube44 : spec_l04Frac.f 200 197 3 = some 3516065817 := by kernel_rfl
theorem cube45 : spec_l04Frac.f 200 199 3 = some 3600352804 := by kernel_rfl
theorem cube46 : spec_l04Frac.f 200 211 3 = some 4094571909 := by kernel_rfl
theorem cube47 : spec_l04Frac.f 200 223 3 = some 275423344 := by kernel_rfl
end Go.Proofs.Ytcgkfijigjcmpaa.Pure
