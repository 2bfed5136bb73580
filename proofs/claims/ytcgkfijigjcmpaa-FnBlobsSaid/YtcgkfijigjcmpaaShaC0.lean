/- What the reference's l04Frac answers for the first 16 of the first 64 primes (cube roots), each reckoned by the kernel; no conditions. -/
import Derived.Test.YtcgkfijigjcmpaaPFnExactShax2
import Derived.KernelRfl
namespace Go.Proofs.Ytcgkfijigjcmpaa.Pure
open Go.RowKit Go.Proofs.Ytcgkfijigjcmpaa.PFnExactSha
set_option maxRecDepth 100000
theorem cube0 : spec_l04Frac.f 200 2 3 = some 1116352408 := by kernel_rfl
theorem cube1 : spec_l04Frac.f 200 3 3 = some 1899447441 := by kernel_rfl
theorem cube2 : spec_l04Frac.f 200 5 3 = some 3049323471 := by kernel_rfl
theorem cube3 : spec_l04Frac.f 200 7 3 = some 3921009573 := by kernel_rfl
theorem cube4 : spec_l04Frac.f 200 11 3 = some 961987163 := by kernel_rfl
theorem cube5 : spec_l04Frac.f 200 13 3 = some 1508970993 := by kernel_rfl
theorem cube6 : spec_l04Frac.f 200 17 3 = some 2453635748 := by kernel_rfl
theorem cube7 : spec_l04Frac.f 200 19 3 = some 2870763221 := by kernel_rfl
theorem cube8 : spec_l04Frac.f 200 23 3 = some 3624381080 := by kernel_rfl
theorem cube9 : spec_l04Frac.f 200 29 3 = some 310598401 := by kernel_rfl
theorem cube10 : spec_l04Frac.f 200 31 3 = some 607225278 := by kernel_rfl
theorem cube11 : spec_l04Frac.f 200 37 3 = some 1426881987 := by kernel_rfl
theorem cube12 : spec_l04Frac.f 200 41 3 = some 1925078388 := by kernel_rfl
theorem cube13 : spec_l04Frac.f 200 43 3 = some 2162078206 := by kernel_rfl
theorem cube14 : spec_l04Frac.f 200 47 3 = some 2614888103 := by kernel_rfl
theorem cube15 : spec_l04Frac.f 200 53 3 = some 3248222580 := by kernel_rfl
theorem root0 : spec_l04Frac.f 200 2 2 = some 1779033703 := by kernel_rfl
theorem root1 : spec_l04Frac.f 200 3 2 = some 3144134277 := by kernel_rfl
theorem root2 : spec_l04Frac.f 200 5 2 = some 1013904242 := by kernel_rfl
theorem root3 : spec_l04Frac.f 200 7 2 = some 2773480762 := by kernel_rfl
theorem root4 : spec_l04Frac.f 200 11 2 = some 1359893119 := by kernel_rfl
theorem root5 : spec_l04Frac.f 200 13 2 = some 2600822924 := by kernel_rfl
theorem root6 : spec_l04Frac.f 200 17 2 = some 528734635 := by kernel_rfl
theorem root7 : spec_l04Frac.f 200 19 2 = some 1541459225 := by kernel_rfl
def primes64 : List Int := [2, 3, 5, 7, 11, 13, 17, 19, 23, 29, 31, 37, 41, 43, 47, 53, 59, 61, 67, 71, 73, 79, 83, 89, 97, 101, 103, 107, 109, 113, 127, 131, 137, 139, 149, 151, 157, 163, 167, 173, 179, 181, 191, 193, 197, 199, 211, 223, 227, 229, 233, 239, 241, 251, 257, 263, 269, 271, 277, 281, 283, 293, 307, 311]
theorem primes_eq : spec_l04Primes.f 14000 64 = some primes64 := by kernel_rfl
end Go.Proofs.Ytcgkfijigjcmpaa.Pure
