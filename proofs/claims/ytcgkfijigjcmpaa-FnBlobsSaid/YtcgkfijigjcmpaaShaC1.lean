/- What the reference's l04Frac answers for the 17th to 32nd of the first 64 primes (cube roots), each reckoned by the kernel; no conditions. -/
import Derived.Test.YtcgkfijigjcmpaaPFnExactShax2
import Derived.KernelRfl
namespace Go.Proofs.Ytcgkfijigjcmpaa.Pure
open Go.RowKit Go.Proofs.Ytcgkfijigjcmpaa.PFnExactSha
set_option maxRecDepth 100000
theorem cube16 : spec_l04Frac.f 200 59 3 = some 3835390401 := by kernel_rfl
theorem cube17 : spec_l04Frac.f 200 61 3 = some 4022224774 := by kernel_rfl
theorem cube18 : spec_l04Frac.f 200 67 3 = some 264347078 := by kernel_rfl
theorem cube19 : spec_l04Frac.f 200 71 3 = some 604807628 := by kernel_rfl
theorem cube20 : spec_l04Frac.f 200 73 3 = some 770255983 := by kernel_rfl
theorem cube21 : spec_l04Frac.f 200 79 3 = some 1249150122 := by kernel_rfl
theorem cube22 : spec_l04Frac.f 200 83 3 = some 1555081692 := by kernel_rfl
theorem cube23 : spec_l04Frac.f 200 89 3 = some 1996064986 := by kernel_rfl
theorem cube24 : spec_l04Frac.f 200 97 3 = some 2554220882 := by kernel_rfl
theorem cube25 : spec_l04Frac.f 200 101 3 = some 2821834349 := by kernel_rfl
theorem cube26 : spec_l04Frac.f 200 103 3 = some 2952996808 := by kernel_rfl
theorem cube27 : spec_l04Frac.f 200 107 3 = some 3210313671 := by kernel_rfl
theorem cube28 : spec_l04Frac.f 200 109 3 = some 3336571891 := by kernel_rfl
theorem cube29 : spec_l04Frac.f 200 113 3 = some 3584528711 := by kernel_rfl
theorem cube30 : spec_l04Frac.f 200 127 3 = some 113926993 := by kernel_rfl
theorem cube31 : spec_l04Frac.f 200 131 3 = some 338241895 := by kernel_rfl
end Go.Proofs.Ytcgkfijigjcmpaa.Pure
