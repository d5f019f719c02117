/- The roots of the first primes are the numbers. -/
import Derived.Test.YtfdlkkhhakjgeaaSpecRef2
namespace Go.Spec
theorem roots8 : rootsTo 8 2 8 = firstS.vals := by decide +kernel
theorem roots64 : rootsTo 64 3 64 = keyL := by decide +kernel
end Go.Spec
