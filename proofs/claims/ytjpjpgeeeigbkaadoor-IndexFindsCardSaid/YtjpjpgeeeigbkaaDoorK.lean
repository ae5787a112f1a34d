/-
  The bounds of the integers' kinds.
-/
import Derived.Test.YtjpjpgeeeigbkaaDoorE3
set_option linter.all false
namespace Go.En
theorem kmin (k : IntKind) : k.min = (match k with | .i8 => -128 | .i16 => -32768 | .i32 => -2147483648 | .i64 => -9223372036854775808 | .u8 => 0 | .u16 => 0 | .u32 => 0 | .u64 => 0 : Int) := by cases k <;> rfl
theorem kmax (k : IntKind) : k.max = (match k with | .i8 => 127 | .i16 => 32767 | .i32 => 2147483647 | .i64 => 9223372036854775807 | .u8 => 255 | .u16 => 65535 | .u32 => 4294967295 | .u64 => 18446744073709551615 : Int) := by cases k <;> rfl
end Go.En
