/- The rows of the program's table for the tokens' types. Closed facts. -/
import Derived.Test.YtofbhdpcpoclaaaDoorProg
import Derived.KernelRfl
namespace Go.Proofs
theorem Tryd.infoToken : (Tryd.prog.info? 30).map (fun i => (i.zero, i.size, i.bytes)) = some (some (.agg #[.int .i64 0, .string ByteArray.empty, .string ByteArray.empty, .int .i64 0]), 4, 48) := by kernel_rfl
theorem Tryd.infoRToken : (Tryd.prog.info? 37).map (fun i => (i.zero, i.size, i.bytes)) = some (some (.agg #[.int .i64 0, .string ByteArray.empty, .string ByteArray.empty, .int .i64 0]), 4, 48) := by kernel_rfl
end Go.Proofs
