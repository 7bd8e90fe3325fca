/- The types of the seat's program, as the reading takes them. No conditions. -/
import Derived.Test.YtihipeicmbgegaaRJa
import Derived.Test.YtihipeicmbgegaaProg
import Derived.KernelRfl
namespace Go.Proofs.Ytihipeicmbgegaa.Rf
open Go Go.Proofs
def tab : Tab := [(2, .int .i64), (3, .int .i64), (4, .bool), (5, .int .u8), (6, .int .u8), (7, .tu [2, 3, 4, 6]), (8, .tu [2, 3, 4, 6]), (9, .str), (10, .str), (11, .str), (12, .int .u64), (21, .int .i32), (22, .sl 3), (23, .sl 44), (24, .tu [22, 23]), (25, .tu [22, 23]), (26, .sl 28), (27, .tu [3, 2, 9]), (28, .tu [3, 2, 9]), (33, .int .i64), (40, .sl 64), (41, .tu [22, 22, 22, 3, 3, 3]), (42, .tu [22, 22, 22, 3, 3, 3]), (43, .tu [9, 40, 3, 3, 3, 42]), (44, .tu [9, 40, 3, 3, 3, 42]), (51, .sl 26), (60, .sl 5), (63, .tu [9, 3, 4]), (64, .tu [9, 3, 4]), (65, .int .u64), (72, .sl 101), (79, .sl 82), (81, .tu [3, 3]), (82, .tu [3, 3]), (87, .int .u64), (98, .int .u16), (99, .int .u16), (100, .tu [99, 99, 99, 3, 3]), (101, .tu [99, 99, 99, 3, 3]), (106, .tu [101, 101, 4]), (107, .tu [101, 101, 4]), (118, .sl 9), (131, .sl 22), (141, .int .i64), (148, .int .u32), (150, .int .u64), (166, .int .u8), (167, .int .u8), (170, .int .i32), (171, .int .i32)]
theorem tab_ok : tabOk Try.prog tab = true := by kernel_rfl
end Go.Proofs.Ytihipeicmbgegaa.Rf
