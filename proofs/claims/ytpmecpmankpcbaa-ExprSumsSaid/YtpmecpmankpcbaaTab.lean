/- The types of the seat's program, as the reading takes them. No conditions. -/
import Derived.Test.YtpmecpmankpcbaaRJa
import Derived.Test.YtpmecpmankpcbaaProg
import Derived.KernelRfl
namespace Go.Proofs.Ytpmecpmankpcbaa.Rf
open Go Go.Proofs
def tab : Tab := [(2, .int .i64), (3, .int .i64), (4, .bool), (5, .int .u8), (6, .int .u8), (7, .tu [2, 3, 4, 6]), (8, .tu [2, 3, 4, 6]), (9, .str), (21, .int .i32), (22, .tu [3, 2, 9]), (23, .tu [3, 2, 9]), (24, .sl 26), (25, .tu [3, 9, 23, 24]), (26, .tu [3, 9, 23, 24]), (27, .sl 57), (28, .sl 3), (29, .tu [28, 28, 28, 3, 3, 3]), (30, .tu [28, 28, 28, 3, 3, 3]), (31, .tu [9, 27, 3, 3, 3, 30]), (32, .tu [9, 27, 3, 3, 3, 30]), (36, .int .i64), (40, .sl 23), (53, .sl 9), (56, .tu [9, 3, 4]), (57, .tu [9, 3, 4]), (87, .int .u64)]
theorem tab_ok : tabOk Try.prog tab = true := by kernel_rfl
end Go.Proofs.Ytpmecpmankpcbaa.Rf
