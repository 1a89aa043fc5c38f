/-
  A part of the run, by the kernel.
-/
import Derived.Test.YthbnehhonkakaaaGreatDoorS4
import Derived.Test.YthbnehhonkakaaaGreatDoorS3
import Derived.KernelRfl
namespace Go.Proofs.YthbnehhonkakaaaGreatDoor
open Go Go.Proofs Va
set_option maxRecDepth 100000
set_option maxHeartbeats 4000000
theorem part4 : dropR [2003, 2000, 2057, 2056, 2055, 2054, 2052, 2051, 2053, 2058, 2248, 2250, 2249, 2252, 2251, 2639, 2261, 2668, 2653, 2659, 2652, 2522, 2532, 2456, 2569, 2260, 2257, 2258, 2255, 2256, 2039, 3007, 3319, 3321, 3286, 3287, 3284, 3285, 3184, 3186, 3134, 3135, 3061, 3063, 3042, 3043, 3325, 2677, 2637, 2854, 2885, 2635, 2636, 2801, 2819, 2629, 2771, 2856, 2669, 2230, 2232, 2221, 2047, 2050, 2069, 2070, 2067, 2068, 2065, 2034, 2019, 2036, 2011, 2066, 2040, 4] (F.runL (Look.tabs Tryz.prog tabs) xs [14, 13, 12, 6, 4, 2, 1, 0] s3) = .next s4 := by kernel_rfl
end Go.Proofs.YthbnehhonkakaaaGreatDoor
