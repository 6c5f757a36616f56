/- The facts on the types of this translation, as class instances. No conditions. -/
import Derived.Test.YtpifgpciopfhjaaProg
import Derived.KernelRfl
import Derived.Test.YtpifgpciopfhjaaCoreZ
namespace Go.Proofs.Ytpifgpciopfhjaa
open Go Go.Proofs

instance : IsVar Try.prog 2 false 1 := ⟨Try.isAgg2, Try.sizeOf2⟩
instance : IsNew Try.prog 2 [vlit (.int .i64 0)] := ⟨⟨_, Try.zeroValue2, fun _ => .cons rfl (.nil)⟩⟩
instance : IsVar Try.prog 3 false 1 := ⟨Try.isAgg3, Try.sizeOf3⟩
instance : IsNew Try.prog 3 [vlit (.int .i64 0)] := ⟨⟨_, Try.zeroValue3, fun _ => .cons rfl (.nil)⟩⟩
instance : IsVar Try.prog 4 false 1 := ⟨Try.isAgg4, Try.sizeOf4⟩
instance : IsNew Try.prog 4 [vlit (.bool false)] := ⟨⟨_, Try.zeroValue4, fun _ => .cons rfl (.nil)⟩⟩
instance : IsBool Try.prog 4 := ⟨Try.underlying4⟩
instance : IsVar Try.prog 5 false 1 := ⟨Try.isAgg5, Try.sizeOf5⟩
instance : IsNew Try.prog 5 [vlit (.int .u8 0)] := ⟨⟨_, Try.zeroValue5, fun _ => .cons rfl (.nil)⟩⟩
instance : IsVar Try.prog 6 false 1 := ⟨Try.isAgg6, Try.sizeOf6⟩
instance : IsNew Try.prog 6 [vlit (.int .u8 0)] := ⟨⟨_, Try.zeroValue6, fun _ => .cons rfl (.nil)⟩⟩
instance : IsVar Try.prog 7 true 4 := ⟨Try.isAgg7, Try.sizeOf7⟩
instance : IsNew Try.prog 7 [vlit (.int .i64 0), vlit (.int .i64 0), vlit (.bool false), vlit (.int .u8 0)] := ⟨⟨_, Try.zeroValue7, fun _ => .cons rfl (.cons rfl (.cons rfl (.cons rfl (.nil))))⟩⟩
instance : IsStruct Try.prog 7 [(0, 1), (1, 1), (2, 1), (3, 1)] := ⟨⟨_, Try.underlying7, fun w => by simp [Try.sizeOf2, Try.sizeOf3, Try.sizeOf4, Try.sizeOf6]⟩⟩
instance : IsFld Try.prog 7 0 0 1 := ⟨⟨_, _, Try.underlying7, rfl, rfl, Try.sizeOf2, by decide⟩⟩
instance : IsFld Try.prog 7 1 1 1 := ⟨⟨_, _, Try.underlying7, rfl, rfl, Try.sizeOf3, by decide⟩⟩
instance : IsFld Try.prog 7 2 2 1 := ⟨⟨_, _, Try.underlying7, rfl, rfl, Try.sizeOf4, by decide⟩⟩
instance : IsFld Try.prog 7 3 3 1 := ⟨⟨_, _, Try.underlying7, rfl, rfl, Try.sizeOf6, by decide⟩⟩
instance : IsVar Try.prog 8 true 4 := ⟨Try.isAgg8, Try.sizeOf8⟩
instance : IsNew Try.prog 8 [vlit (.int .i64 0), vlit (.int .i64 0), vlit (.bool false), vlit (.int .u8 0)] := ⟨⟨_, Try.zeroValue8, fun _ => .cons rfl (.cons rfl (.cons rfl (.cons rfl (.nil))))⟩⟩
instance : IsStruct Try.prog 8 [(0, 1), (1, 1), (2, 1), (3, 1)] := ⟨⟨_, Try.underlying8, fun w => by simp [Try.sizeOf2, Try.sizeOf3, Try.sizeOf4, Try.sizeOf6]⟩⟩
instance : IsFld Try.prog 8 0 0 1 := ⟨⟨_, _, Try.underlying8, rfl, rfl, Try.sizeOf2, by decide⟩⟩
instance : IsFld Try.prog 8 1 1 1 := ⟨⟨_, _, Try.underlying8, rfl, rfl, Try.sizeOf3, by decide⟩⟩
instance : IsFld Try.prog 8 2 2 1 := ⟨⟨_, _, Try.underlying8, rfl, rfl, Try.sizeOf4, by decide⟩⟩
instance : IsFld Try.prog 8 3 3 1 := ⟨⟨_, _, Try.underlying8, rfl, rfl, Try.sizeOf6, by decide⟩⟩
instance : IsVar Try.prog 9 false 1 := ⟨Try.isAgg9, Try.sizeOf9⟩
instance : IsNew Try.prog 9 [vlit (.string .empty)] := ⟨⟨_, Try.zeroValue9, fun _ => .cons rfl (.nil)⟩⟩
instance : IsStr Try.prog 9 := ⟨Try.underlying9⟩
instance : IsVar Try.prog 10 false 1 := ⟨Try.isAgg10, Try.sizeOf10⟩
instance : IsNew Try.prog 10 [vlit (.string .empty)] := ⟨⟨_, Try.zeroValue10, fun _ => .cons rfl (.nil)⟩⟩
instance : IsStr Try.prog 10 := ⟨Try.underlying10⟩
instance : IsVar Try.prog 11 false 1 := ⟨Try.isAgg11, Try.sizeOf11⟩
instance : IsNew Try.prog 11 [vlit (.string .empty)] := ⟨⟨_, Try.zeroValue11, fun _ => .cons rfl (.nil)⟩⟩
instance : IsStr Try.prog 11 := ⟨Try.underlying11⟩
instance : IsVar Try.prog 12 false 1 := ⟨Try.isAgg12, Try.sizeOf12⟩
instance : IsNew Try.prog 12 [vlit (.int .u64 0)] := ⟨⟨_, Try.zeroValue12, fun _ => .cons rfl (.nil)⟩⟩
instance : IsVar Try.prog 13 true 2 := ⟨Try.isAgg13, Try.sizeOf13⟩
instance : IsNew Try.prog 13 [vlit (.string .empty), vlit (.int .u64 0)] := ⟨⟨_, Try.zeroValue13, fun _ => .cons rfl (.cons rfl (.nil))⟩⟩
instance : IsStruct Try.prog 13 [(0, 1), (1, 1)] := ⟨⟨_, Try.underlying13, fun w => by simp [Try.sizeOf9, Try.sizeOf12]⟩⟩
instance : IsFld Try.prog 13 0 0 1 := ⟨⟨_, _, Try.underlying13, rfl, rfl, Try.sizeOf9, by decide⟩⟩
instance : IsFld Try.prog 13 1 1 1 := ⟨⟨_, _, Try.underlying13, rfl, rfl, Try.sizeOf12, by decide⟩⟩
instance : IsVar Try.prog 14 true 2 := ⟨Try.isAgg14, Try.sizeOf14⟩
instance : IsNew Try.prog 14 [vlit (.string .empty), vlit (.int .u64 0)] := ⟨⟨_, Try.zeroValue14, fun _ => .cons rfl (.cons rfl (.nil))⟩⟩
instance : IsStruct Try.prog 14 [(0, 1), (1, 1)] := ⟨⟨_, Try.underlying14, fun w => by simp [Try.sizeOf9, Try.sizeOf12]⟩⟩
instance : IsFld Try.prog 14 0 0 1 := ⟨⟨_, _, Try.underlying14, rfl, rfl, Try.sizeOf9, by decide⟩⟩
instance : IsFld Try.prog 14 1 1 1 := ⟨⟨_, _, Try.underlying14, rfl, rfl, Try.sizeOf12, by decide⟩⟩
instance : IsVar Try.prog 15 false 1 := ⟨Try.isAgg15, Try.sizeOf15⟩
instance : IsNew Try.prog 15 [vlit (.pointer none)] := ⟨⟨_, Try.zeroValue15, fun _ => .cons rfl (.nil)⟩⟩
instance : IsVar Try.prog 16 false 1 := ⟨Try.isAgg16, Try.sizeOf16⟩
instance : IsNew Try.prog 16 [vlit (.pointer none)] := ⟨⟨_, Try.zeroValue16, fun _ => .cons rfl (.nil)⟩⟩
instance : IsVar Try.prog 17 false 1 := ⟨Try.isAgg17, Try.sizeOf17⟩
instance : IsNew Try.prog 17 [vlit (.pointer none)] := ⟨⟨_, Try.zeroValue17, fun _ => .cons rfl (.nil)⟩⟩
instance : IsVar Try.prog 18 true 1 := ⟨Try.isAgg18, Try.sizeOf18⟩
instance : IsNew Try.prog 18 [vlit (.pointer none)] := ⟨⟨_, Try.zeroValue18, fun _ => .cons rfl (.nil)⟩⟩
instance : IsStruct Try.prog 18 [(0, 1)] := ⟨⟨_, Try.underlying18, fun w => by simp [Try.sizeOf17]⟩⟩
instance : IsFld Try.prog 18 0 0 1 := ⟨⟨_, _, Try.underlying18, rfl, rfl, Try.sizeOf17, by decide⟩⟩
instance : IsVar Try.prog 19 true 1 := ⟨Try.isAgg19, Try.sizeOf19⟩
instance : IsNew Try.prog 19 [vlit (.pointer none)] := ⟨⟨_, Try.zeroValue19, fun _ => .cons rfl (.nil)⟩⟩
instance : IsStruct Try.prog 19 [(0, 1)] := ⟨⟨_, Try.underlying19, fun w => by simp [Try.sizeOf17]⟩⟩
instance : IsFld Try.prog 19 0 0 1 := ⟨⟨_, _, Try.underlying19, rfl, rfl, Try.sizeOf17, by decide⟩⟩
instance : IsVar Try.prog 21 false 1 := ⟨Try.isAgg21, Try.sizeOf21⟩
instance : IsNew Try.prog 21 [vlit (.int .i32 0)] := ⟨⟨_, Try.zeroValue21, fun _ => .cons rfl (.nil)⟩⟩
instance : IsVar Try.prog 22 false 1 := ⟨Try.isAgg22, Try.sizeOf22⟩
instance : IsNew Try.prog 22 [vlit (.slice none 0 0)] := ⟨⟨_, Try.zeroValue22, fun _ => .cons rfl (.nil)⟩⟩
instance : IsSl Try.prog 22 30 1 := ⟨Try.underlying22, Try.sizeOf30⟩
instance : IsSlM Try.prog 22 30 1 24 (.slice none 0 0) := ⟨⟨Try.t30, Try.underlying22, by kernel_rfl, rfl, rfl, rfl, rfl, by decide⟩⟩
instance : IsVar Try.prog 23 true 2 := ⟨Try.isAgg23, Try.sizeOf23⟩
instance : IsNew Try.prog 23 [vlit (.int .i64 0), vlit (.slice none 0 0)] := ⟨⟨_, Try.zeroValue23, fun _ => .cons rfl (.cons rfl (.nil))⟩⟩
instance : IsStruct Try.prog 23 [(0, 1), (1, 1)] := ⟨⟨_, Try.underlying23, fun w => by simp [Try.sizeOf3, Try.sizeOf22]⟩⟩
instance : IsFld Try.prog 23 0 0 1 := ⟨⟨_, _, Try.underlying23, rfl, rfl, Try.sizeOf3, by decide⟩⟩
instance : IsFld Try.prog 23 1 1 1 := ⟨⟨_, _, Try.underlying23, rfl, rfl, Try.sizeOf22, by decide⟩⟩
instance : IsVar Try.prog 24 true 2 := ⟨Try.isAgg24, Try.sizeOf24⟩
instance : IsNew Try.prog 24 [vlit (.int .i64 0), vlit (.slice none 0 0)] := ⟨⟨_, Try.zeroValue24, fun _ => .cons rfl (.cons rfl (.nil))⟩⟩
instance : IsStruct Try.prog 24 [(0, 1), (1, 1)] := ⟨⟨_, Try.underlying24, fun w => by simp [Try.sizeOf3, Try.sizeOf22]⟩⟩
instance : IsFld Try.prog 24 0 0 1 := ⟨⟨_, _, Try.underlying24, rfl, rfl, Try.sizeOf3, by decide⟩⟩
instance : IsFld Try.prog 24 1 1 1 := ⟨⟨_, _, Try.underlying24, rfl, rfl, Try.sizeOf22, by decide⟩⟩
instance : IsVar Try.prog 30 false 1 := ⟨Try.isAgg30, Try.sizeOf30⟩
instance : IsNew Try.prog 30 [vlit (.slice none 0 0)] := ⟨⟨_, Try.zeroValue30, fun _ => .cons rfl (.nil)⟩⟩
instance : IsSl Try.prog 30 3 1 := ⟨Try.underlying30, Try.sizeOf3⟩
instance : IsSlM Try.prog 30 3 1 8 (.int .i64 0) := ⟨⟨Try.t3, Try.underlying30, by kernel_rfl, rfl, rfl, rfl, rfl, by decide⟩⟩
instance : IsVar Try.prog 36 false 1 := ⟨Try.isAgg36, Try.sizeOf36⟩
instance : IsNew Try.prog 36 [vlit (.slice none 0 0)] := ⟨⟨_, Try.zeroValue36, fun _ => .cons rfl (.nil)⟩⟩
instance : IsSl Try.prog 36 92 2 := ⟨Try.underlying36, Try.sizeOf92⟩
instance : IsSlM Try.prog 36 92 2 48 (.agg #[.slice none 0 0, .slice none 0 0]) := ⟨⟨Try.t92, Try.underlying36, by kernel_rfl, rfl, rfl, rfl, rfl, by decide⟩⟩
instance : IsVar Try.prog 37 true 2 := ⟨Try.isAgg37, Try.sizeOf37⟩
instance : IsNew Try.prog 37 [vlit (.int .i64 0), vlit (.slice none 0 0)] := ⟨⟨_, Try.zeroValue37, fun _ => .cons rfl (.cons rfl (.nil))⟩⟩
instance : IsStruct Try.prog 37 [(0, 1), (1, 1)] := ⟨⟨_, Try.underlying37, fun w => by simp [Try.sizeOf3, Try.sizeOf36]⟩⟩
instance : IsFld Try.prog 37 0 0 1 := ⟨⟨_, _, Try.underlying37, rfl, rfl, Try.sizeOf3, by decide⟩⟩
instance : IsFld Try.prog 37 1 1 1 := ⟨⟨_, _, Try.underlying37, rfl, rfl, Try.sizeOf36, by decide⟩⟩
instance : IsVar Try.prog 38 true 2 := ⟨Try.isAgg38, Try.sizeOf38⟩
instance : IsNew Try.prog 38 [vlit (.int .i64 0), vlit (.slice none 0 0)] := ⟨⟨_, Try.zeroValue38, fun _ => .cons rfl (.cons rfl (.nil))⟩⟩
instance : IsStruct Try.prog 38 [(0, 1), (1, 1)] := ⟨⟨_, Try.underlying38, fun w => by simp [Try.sizeOf3, Try.sizeOf36]⟩⟩
instance : IsFld Try.prog 38 0 0 1 := ⟨⟨_, _, Try.underlying38, rfl, rfl, Try.sizeOf3, by decide⟩⟩
instance : IsFld Try.prog 38 1 1 1 := ⟨⟨_, _, Try.underlying38, rfl, rfl, Try.sizeOf36, by decide⟩⟩
instance : IsVar Try.prog 41 false 1 := ⟨Try.isAgg41, Try.sizeOf41⟩
instance : IsNew Try.prog 41 [vlit (.slice none 0 0)] := ⟨⟨_, Try.zeroValue41, fun _ => .cons rfl (.nil)⟩⟩
instance : IsSl Try.prog 41 82 2 := ⟨Try.underlying41, Try.sizeOf82⟩
instance : IsSlM Try.prog 41 82 2 48 (.agg #[.slice none 0 0, .slice none 0 0]) := ⟨⟨Try.t82, Try.underlying41, by kernel_rfl, rfl, rfl, rfl, rfl, by decide⟩⟩
instance : IsVar Try.prog 42 true 2 := ⟨Try.isAgg42, Try.sizeOf42⟩
instance : IsNew Try.prog 42 [vlit (.int .i64 0), vlit (.slice none 0 0)] := ⟨⟨_, Try.zeroValue42, fun _ => .cons rfl (.cons rfl (.nil))⟩⟩
instance : IsStruct Try.prog 42 [(0, 1), (1, 1)] := ⟨⟨_, Try.underlying42, fun w => by simp [Try.sizeOf3, Try.sizeOf41]⟩⟩
instance : IsFld Try.prog 42 0 0 1 := ⟨⟨_, _, Try.underlying42, rfl, rfl, Try.sizeOf3, by decide⟩⟩
instance : IsFld Try.prog 42 1 1 1 := ⟨⟨_, _, Try.underlying42, rfl, rfl, Try.sizeOf41, by decide⟩⟩
instance : IsVar Try.prog 43 true 2 := ⟨Try.isAgg43, Try.sizeOf43⟩
instance : IsNew Try.prog 43 [vlit (.int .i64 0), vlit (.slice none 0 0)] := ⟨⟨_, Try.zeroValue43, fun _ => .cons rfl (.cons rfl (.nil))⟩⟩
instance : IsStruct Try.prog 43 [(0, 1), (1, 1)] := ⟨⟨_, Try.underlying43, fun w => by simp [Try.sizeOf3, Try.sizeOf41]⟩⟩
instance : IsFld Try.prog 43 0 0 1 := ⟨⟨_, _, Try.underlying43, rfl, rfl, Try.sizeOf3, by decide⟩⟩
instance : IsFld Try.prog 43 1 1 1 := ⟨⟨_, _, Try.underlying43, rfl, rfl, Try.sizeOf41, by decide⟩⟩
instance : IsVar Try.prog 47 true 2 := ⟨Try.isAgg47, Try.sizeOf47⟩
instance : IsNew Try.prog 47 [vlit (.int .i64 0), vlit (.slice none 0 0)] := ⟨⟨_, Try.zeroValue47, fun _ => .cons rfl (.cons rfl (.nil))⟩⟩
instance : IsStruct Try.prog 47 [(0, 1), (1, 1)] := ⟨⟨_, Try.underlying47, fun w => by simp [Try.sizeOf3, Try.sizeOf22]⟩⟩
instance : IsFld Try.prog 47 0 0 1 := ⟨⟨_, _, Try.underlying47, rfl, rfl, Try.sizeOf3, by decide⟩⟩
instance : IsFld Try.prog 47 1 1 1 := ⟨⟨_, _, Try.underlying47, rfl, rfl, Try.sizeOf22, by decide⟩⟩
instance : IsVar Try.prog 53 true 2 := ⟨Try.isAgg53, Try.sizeOf53⟩
instance : IsNew Try.prog 53 [vlit (.int .i64 0), vlit (.slice none 0 0)] := ⟨⟨_, Try.zeroValue53, fun _ => .cons rfl (.cons rfl (.nil))⟩⟩
instance : IsStruct Try.prog 53 [(0, 1), (1, 1)] := ⟨⟨_, Try.underlying53, fun w => by simp [Try.sizeOf3, Try.sizeOf30]⟩⟩
instance : IsFld Try.prog 53 0 0 1 := ⟨⟨_, _, Try.underlying53, rfl, rfl, Try.sizeOf3, by decide⟩⟩
instance : IsFld Try.prog 53 1 1 1 := ⟨⟨_, _, Try.underlying53, rfl, rfl, Try.sizeOf30, by decide⟩⟩
instance : IsVar Try.prog 54 true 2 := ⟨Try.isAgg54, Try.sizeOf54⟩
instance : IsNew Try.prog 54 [vlit (.int .i64 0), vlit (.slice none 0 0)] := ⟨⟨_, Try.zeroValue54, fun _ => .cons rfl (.cons rfl (.nil))⟩⟩
instance : IsStruct Try.prog 54 [(0, 1), (1, 1)] := ⟨⟨_, Try.underlying54, fun w => by simp [Try.sizeOf3, Try.sizeOf30]⟩⟩
instance : IsFld Try.prog 54 0 0 1 := ⟨⟨_, _, Try.underlying54, rfl, rfl, Try.sizeOf3, by decide⟩⟩
instance : IsFld Try.prog 54 1 1 1 := ⟨⟨_, _, Try.underlying54, rfl, rfl, Try.sizeOf30, by decide⟩⟩
instance : IsVar Try.prog 57 true 2 := ⟨Try.isAgg57, Try.sizeOf57⟩
instance : IsNew Try.prog 57 [vlit (.int .i64 0), vlit (.slice none 0 0)] := ⟨⟨_, Try.zeroValue57, fun _ => .cons rfl (.cons rfl (.nil))⟩⟩
instance : IsStruct Try.prog 57 [(0, 1), (1, 1)] := ⟨⟨_, Try.underlying57, fun w => by simp [Try.sizeOf3, Try.sizeOf30]⟩⟩
instance : IsFld Try.prog 57 0 0 1 := ⟨⟨_, _, Try.underlying57, rfl, rfl, Try.sizeOf3, by decide⟩⟩
instance : IsFld Try.prog 57 1 1 1 := ⟨⟨_, _, Try.underlying57, rfl, rfl, Try.sizeOf30, by decide⟩⟩
instance : IsVar Try.prog 64 false 1 := ⟨Try.isAgg64, Try.sizeOf64⟩
instance : IsNew Try.prog 64 [vlit (.slice none 0 0)] := ⟨⟨_, Try.zeroValue64, fun _ => .cons rfl (.nil)⟩⟩
instance : IsSl Try.prog 64 47 2 := ⟨Try.underlying64, Try.sizeOf47⟩
instance : IsSlM Try.prog 64 47 2 32 (.agg #[.int .i64 0, .slice none 0 0]) := ⟨⟨Try.t47, Try.underlying64, by kernel_rfl, rfl, rfl, rfl, rfl, by decide⟩⟩
instance : IsVar Try.prog 67 false 1 := ⟨Try.isAgg67, Try.sizeOf67⟩
instance : IsNew Try.prog 67 [vlit (.slice none 0 0)] := ⟨⟨_, Try.zeroValue67, fun _ => .cons rfl (.nil)⟩⟩
instance : IsSl Try.prog 67 24 2 := ⟨Try.underlying67, Try.sizeOf24⟩
instance : IsSlM Try.prog 67 24 2 32 (.agg #[.int .i64 0, .slice none 0 0]) := ⟨⟨Try.t24, Try.underlying67, by kernel_rfl, rfl, rfl, rfl, rfl, by decide⟩⟩
instance : IsVar Try.prog 81 true 2 := ⟨Try.isAgg81, Try.sizeOf81⟩
instance : IsNew Try.prog 81 [vlit (.slice none 0 0), vlit (.slice none 0 0)] := ⟨⟨_, Try.zeroValue81, fun _ => .cons rfl (.cons rfl (.nil))⟩⟩
instance : IsStruct Try.prog 81 [(0, 1), (1, 1)] := ⟨⟨_, Try.underlying81, fun w => by simp [Try.sizeOf30]⟩⟩
instance : IsFld Try.prog 81 0 0 1 := ⟨⟨_, _, Try.underlying81, rfl, rfl, Try.sizeOf30, by decide⟩⟩
instance : IsFld Try.prog 81 1 1 1 := ⟨⟨_, _, Try.underlying81, rfl, rfl, Try.sizeOf30, by decide⟩⟩
instance : IsVar Try.prog 82 true 2 := ⟨Try.isAgg82, Try.sizeOf82⟩
instance : IsNew Try.prog 82 [vlit (.slice none 0 0), vlit (.slice none 0 0)] := ⟨⟨_, Try.zeroValue82, fun _ => .cons rfl (.cons rfl (.nil))⟩⟩
instance : IsStruct Try.prog 82 [(0, 1), (1, 1)] := ⟨⟨_, Try.underlying82, fun w => by simp [Try.sizeOf30]⟩⟩
instance : IsFld Try.prog 82 0 0 1 := ⟨⟨_, _, Try.underlying82, rfl, rfl, Try.sizeOf30, by decide⟩⟩
instance : IsFld Try.prog 82 1 1 1 := ⟨⟨_, _, Try.underlying82, rfl, rfl, Try.sizeOf30, by decide⟩⟩
instance : IsVar Try.prog 92 true 2 := ⟨Try.isAgg92, Try.sizeOf92⟩
instance : IsNew Try.prog 92 [vlit (.slice none 0 0), vlit (.slice none 0 0)] := ⟨⟨_, Try.zeroValue92, fun _ => .cons rfl (.cons rfl (.nil))⟩⟩
instance : IsStruct Try.prog 92 [(0, 1), (1, 1)] := ⟨⟨_, Try.underlying92, fun w => by simp [Try.sizeOf30]⟩⟩
instance : IsFld Try.prog 92 0 0 1 := ⟨⟨_, _, Try.underlying92, rfl, rfl, Try.sizeOf30, by decide⟩⟩
instance : IsFld Try.prog 92 1 1 1 := ⟨⟨_, _, Try.underlying92, rfl, rfl, Try.sizeOf30, by decide⟩⟩
instance : IsVar Try.prog 101 true 4 := ⟨Try.isAgg101, Try.sizeOf101⟩
instance : IsNew Try.prog 101 [vlit (.pointer none), vlit (.pointer none), vlit (.pointer none), vlit (.string .empty)] := ⟨⟨_, Try.zeroValue101, fun _ => .cons rfl (.cons rfl (.cons rfl (.cons rfl (.nil))))⟩⟩
instance : IsStruct Try.prog 101 [(0, 1), (1, 1), (2, 1), (3, 1)] := ⟨⟨_, Try.underlying101, fun w => by simp [Try.sizeOf9, Try.sizeOf17]⟩⟩
instance : IsFld Try.prog 101 0 0 1 := ⟨⟨_, _, Try.underlying101, rfl, rfl, Try.sizeOf17, by decide⟩⟩
instance : IsFld Try.prog 101 1 1 1 := ⟨⟨_, _, Try.underlying101, rfl, rfl, Try.sizeOf17, by decide⟩⟩
instance : IsFld Try.prog 101 2 2 1 := ⟨⟨_, _, Try.underlying101, rfl, rfl, Try.sizeOf17, by decide⟩⟩
instance : IsFld Try.prog 101 3 3 1 := ⟨⟨_, _, Try.underlying101, rfl, rfl, Try.sizeOf9, by decide⟩⟩
instance : IsVar Try.prog 102 true 4 := ⟨Try.isAgg102, Try.sizeOf102⟩
instance : IsNew Try.prog 102 [vlit (.pointer none), vlit (.pointer none), vlit (.pointer none), vlit (.string .empty)] := ⟨⟨_, Try.zeroValue102, fun _ => .cons rfl (.cons rfl (.cons rfl (.cons rfl (.nil))))⟩⟩
instance : IsStruct Try.prog 102 [(0, 1), (1, 1), (2, 1), (3, 1)] := ⟨⟨_, Try.underlying102, fun w => by simp [Try.sizeOf9, Try.sizeOf17]⟩⟩
instance : IsFld Try.prog 102 0 0 1 := ⟨⟨_, _, Try.underlying102, rfl, rfl, Try.sizeOf17, by decide⟩⟩
instance : IsFld Try.prog 102 1 1 1 := ⟨⟨_, _, Try.underlying102, rfl, rfl, Try.sizeOf17, by decide⟩⟩
instance : IsFld Try.prog 102 2 2 1 := ⟨⟨_, _, Try.underlying102, rfl, rfl, Try.sizeOf17, by decide⟩⟩
instance : IsFld Try.prog 102 3 3 1 := ⟨⟨_, _, Try.underlying102, rfl, rfl, Try.sizeOf9, by decide⟩⟩
instance : IsVar Try.prog 103 true 0 := ⟨Try.isAgg103, Try.sizeOf103⟩
instance : IsNew Try.prog 103 [] := ⟨⟨_, Try.zeroValue103, fun _ => .nil⟩⟩
instance : IsVar Try.prog 104 true 0 := ⟨Try.isAgg104, Try.sizeOf104⟩
instance : IsNew Try.prog 104 [] := ⟨⟨_, Try.zeroValue104, fun _ => .nil⟩⟩
instance : IsVar Try.prog 105 true 0 := ⟨Try.isAgg105, Try.sizeOf105⟩
instance : IsNew Try.prog 105 [] := ⟨⟨_, Try.zeroValue105, fun _ => .nil⟩⟩
instance : IsVar Try.prog 107 false 1 := ⟨Try.isAgg107, Try.sizeOf107⟩
instance : IsNew Try.prog 107 [vlit (.int .u32 0)] := ⟨⟨_, Try.zeroValue107, fun _ => .cons rfl (.nil)⟩⟩
instance : IsVar Try.prog 108 false 1 := ⟨Try.isAgg108, Try.sizeOf108⟩
instance : IsNew Try.prog 108 [vlit (.int .u8 0)] := ⟨⟨_, Try.zeroValue108, fun _ => .cons rfl (.nil)⟩⟩
instance : IsVar Try.prog 109 false 1 := ⟨Try.isAgg109, Try.sizeOf109⟩
instance : IsNew Try.prog 109 [vlit (.int .u8 0)] := ⟨⟨_, Try.zeroValue109, fun _ => .cons rfl (.nil)⟩⟩
instance : IsVar Try.prog 111 false 1 := ⟨Try.isAgg111, Try.sizeOf111⟩
instance : IsNew Try.prog 111 [vlit (.pointer none)] := ⟨⟨_, Try.zeroValue111, fun _ => .cons rfl (.nil)⟩⟩
instance : IsVar Try.prog 112 false 1 := ⟨Try.isAgg112, Try.sizeOf112⟩
instance : IsNew Try.prog 112 [vlit (.int .i32 0)] := ⟨⟨_, Try.zeroValue112, fun _ => .cons rfl (.nil)⟩⟩
instance : IsVar Try.prog 113 false 1 := ⟨Try.isAgg113, Try.sizeOf113⟩
instance : IsNew Try.prog 113 [vlit (.int .i32 0)] := ⟨⟨_, Try.zeroValue113, fun _ => .cons rfl (.nil)⟩⟩
instance : IsVar Try.prog 114 true 11 := ⟨Try.isAgg114, Try.sizeOf114⟩
instance : IsNew Try.prog 114 [vlit (.int .u64 0), vlit (.int .u64 0), vlit (.int .u32 0), vlit (.int .u8 0), vlit (.int .u8 0), vlit (.int .u8 0), vlit (.int .u8 0), vlit (.nilFunc), vlit (.pointer none), vlit (.int .i32 0), vlit (.int .i32 0)] := ⟨⟨_, Try.zeroValue114, fun _ => .cons rfl (.cons rfl (.cons rfl (.cons rfl (.cons rfl (.cons rfl (.cons rfl (.cons rfl (.cons rfl (.cons rfl (.cons rfl (.nil)))))))))))⟩⟩
instance : IsStruct Try.prog 114 [(0, 1), (1, 1), (2, 1), (3, 1), (4, 1), (5, 1), (6, 1), (7, 1), (8, 1), (9, 1), (10, 1)] := ⟨⟨_, Try.underlying114, fun w => by simp [Try.sizeOf5, Try.sizeOf12, Try.sizeOf107, Try.sizeOf108, Try.sizeOf109, Try.sizeOf110, Try.sizeOf111, Try.sizeOf112, Try.sizeOf113]⟩⟩
instance : IsFld Try.prog 114 0 0 1 := ⟨⟨_, _, Try.underlying114, rfl, rfl, Try.sizeOf12, by decide⟩⟩
instance : IsFld Try.prog 114 1 1 1 := ⟨⟨_, _, Try.underlying114, rfl, rfl, Try.sizeOf12, by decide⟩⟩
instance : IsFld Try.prog 114 2 2 1 := ⟨⟨_, _, Try.underlying114, rfl, rfl, Try.sizeOf107, by decide⟩⟩
instance : IsFld Try.prog 114 3 3 1 := ⟨⟨_, _, Try.underlying114, rfl, rfl, Try.sizeOf108, by decide⟩⟩
instance : IsFld Try.prog 114 4 4 1 := ⟨⟨_, _, Try.underlying114, rfl, rfl, Try.sizeOf5, by decide⟩⟩
instance : IsFld Try.prog 114 5 5 1 := ⟨⟨_, _, Try.underlying114, rfl, rfl, Try.sizeOf5, by decide⟩⟩
instance : IsFld Try.prog 114 6 6 1 := ⟨⟨_, _, Try.underlying114, rfl, rfl, Try.sizeOf109, by decide⟩⟩
instance : IsFld Try.prog 114 7 7 1 := ⟨⟨_, _, Try.underlying114, rfl, rfl, Try.sizeOf110, by decide⟩⟩
instance : IsFld Try.prog 114 8 8 1 := ⟨⟨_, _, Try.underlying114, rfl, rfl, Try.sizeOf111, by decide⟩⟩
instance : IsFld Try.prog 114 9 9 1 := ⟨⟨_, _, Try.underlying114, rfl, rfl, Try.sizeOf112, by decide⟩⟩
instance : IsFld Try.prog 114 10 10 1 := ⟨⟨_, _, Try.underlying114, rfl, rfl, Try.sizeOf113, by decide⟩⟩
instance : IsVar Try.prog 115 true 11 := ⟨Try.isAgg115, Try.sizeOf115⟩
instance : IsNew Try.prog 115 [vlit (.int .u64 0), vlit (.int .u64 0), vlit (.int .u32 0), vlit (.int .u8 0), vlit (.int .u8 0), vlit (.int .u8 0), vlit (.int .u8 0), vlit (.nilFunc), vlit (.pointer none), vlit (.int .i32 0), vlit (.int .i32 0)] := ⟨⟨_, Try.zeroValue115, fun _ => .cons rfl (.cons rfl (.cons rfl (.cons rfl (.cons rfl (.cons rfl (.cons rfl (.cons rfl (.cons rfl (.cons rfl (.cons rfl (.nil)))))))))))⟩⟩
instance : IsStruct Try.prog 115 [(0, 1), (1, 1), (2, 1), (3, 1), (4, 1), (5, 1), (6, 1), (7, 1), (8, 1), (9, 1), (10, 1)] := ⟨⟨_, Try.underlying115, fun w => by simp [Try.sizeOf5, Try.sizeOf12, Try.sizeOf107, Try.sizeOf108, Try.sizeOf109, Try.sizeOf110, Try.sizeOf111, Try.sizeOf112, Try.sizeOf113]⟩⟩
instance : IsFld Try.prog 115 0 0 1 := ⟨⟨_, _, Try.underlying115, rfl, rfl, Try.sizeOf12, by decide⟩⟩
instance : IsFld Try.prog 115 1 1 1 := ⟨⟨_, _, Try.underlying115, rfl, rfl, Try.sizeOf12, by decide⟩⟩
instance : IsFld Try.prog 115 2 2 1 := ⟨⟨_, _, Try.underlying115, rfl, rfl, Try.sizeOf107, by decide⟩⟩
instance : IsFld Try.prog 115 3 3 1 := ⟨⟨_, _, Try.underlying115, rfl, rfl, Try.sizeOf108, by decide⟩⟩
instance : IsFld Try.prog 115 4 4 1 := ⟨⟨_, _, Try.underlying115, rfl, rfl, Try.sizeOf5, by decide⟩⟩
instance : IsFld Try.prog 115 5 5 1 := ⟨⟨_, _, Try.underlying115, rfl, rfl, Try.sizeOf5, by decide⟩⟩
instance : IsFld Try.prog 115 6 6 1 := ⟨⟨_, _, Try.underlying115, rfl, rfl, Try.sizeOf109, by decide⟩⟩
instance : IsFld Try.prog 115 7 7 1 := ⟨⟨_, _, Try.underlying115, rfl, rfl, Try.sizeOf110, by decide⟩⟩
instance : IsFld Try.prog 115 8 8 1 := ⟨⟨_, _, Try.underlying115, rfl, rfl, Try.sizeOf111, by decide⟩⟩
instance : IsFld Try.prog 115 9 9 1 := ⟨⟨_, _, Try.underlying115, rfl, rfl, Try.sizeOf112, by decide⟩⟩
instance : IsFld Try.prog 115 10 10 1 := ⟨⟨_, _, Try.underlying115, rfl, rfl, Try.sizeOf113, by decide⟩⟩
end Go.Proofs.Ytpifgpciopfhjaa
