/- What the reference's l04Frac answers for the 49th to 64th of the first 64 primes (cube roots), each reckoned by the kernel; no conditions. -/
import Derived.Test.YtcgkfijigjcmpaaPFnExactShax2
import Derived.KernelRfl
namespace Go.Proofs.Ytcgkfijigjcmpaa.Pure
open Go.RowKit Go.Proofs.Ytcgkfijigjcmpaa.PFnExactSha
set_option maxRecDepth 100000
theorem cube48 : spec_l04Frac.f 200 227 3 = some 430227734 := by kernel_rfl
theorem cube49 : spec_l04Frac.f 200 229 3 = some 506948616 := by kernel_rfl
theorem cube50 : spec_l04Frac.f 200 233 3 = some 659060556 := by kernel_rfl
theorem cube51 : spec_l04Frac.f 200 239 3 = some 883997877 := by kernel_rfl
theorem cube52 : spec_l04Frac.f 200 241 3 = some 958139571 := by kernel_rfl
theorem cube53 : spec_l04Frac.f 200 251 3 = some 1322822218 := by kernel_rfl
theorem cube54 : spec_l04Frac.f 200 257 3 = some 1537002063 := by kernel_rfl
theorem cube55 : spec_l04Frac.f 200 263 3 = some 1747873779 := by kernel_rfl
theorem cube56 : spec_l04Frac.f 200 269 3 = some 1955562222 := by kernel_rfl
theorem cube57 : spec_l04Frac.f 200 271 3 = some 2024104815 := by kernel_rfl
theorem cube58 : spec_l04Frac.f 200 277 3 = some 2227730452 := by kernel_rfl
theorem cube59 : spec_l04Frac.f 200 281 3 = some 2361852424 := by kernel_rfl
theorem cube60 : spec_l04Frac.f 200 283 3 = some 2428436474 := by kernel_rfl
theorem cube61 : spec_l04Frac.f 200 293 3 = some 2756734187 := by kernel_rfl
theorem cube62 : spec_l04Frac.f 200 307 3 = some 3204031479 := by kernel_rfl
theorem cube63 : spec_l04Frac.f 200 311 3 = some 3329325298 := by kernel_rfl
end Go.Proofs.Ytcgkfijigjcmpaa.Pure
