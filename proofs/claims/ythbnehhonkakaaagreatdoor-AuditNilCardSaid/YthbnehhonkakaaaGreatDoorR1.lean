/-
  A part of the run, by the kernel.
-/
import Derived.Test.YthbnehhonkakaaaGreatDoorS1
import Derived.KernelRfl
namespace Go.Proofs.YthbnehhonkakaaaGreatDoor
open Go Go.Proofs Va
set_option maxRecDepth 100000
set_option maxHeartbeats 4000000
theorem part1 : dropR [2003, 2000, 2057, 2056, 2055, 2054, 2052, 2051, 2053, 2058, 2248, 2250, 2249, 2252, 2251, 2261, 2039, 2049, 2048, 2230, 2232, 2221, 2047, 2050, 2069, 2070, 2067, 2068, 2065, 2066, 2040, 2266, 2264, 2262, 2265, 2263, 2257, 2258, 2255, 2256, 2259, 2034, 2019, 2036, 2011, 2260, 2269, 2267, 2268, 2424, 2455, 2456, 2431, 2422, 2423, 4] (F.runL (Look.tabs Tryz.prog tabs) xs [14, 13, 11, 10, 9, 7, 6, 5, 4, 2, 1, 0] s0) = .next s1 := by kernel_rfl
end Go.Proofs.YthbnehhonkakaaaGreatDoor
