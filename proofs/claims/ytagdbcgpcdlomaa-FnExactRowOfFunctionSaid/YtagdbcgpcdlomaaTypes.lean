/- The facts on the types of this translation, as class instances. No conditions. -/
import Derived.Test.YtagdbcgpcdlomaaProg
import Derived.KernelRfl
import Derived.Test.YtagdbcgpcdlomaaCoreZ
namespace Go.Proofs.Ytagdbcgpcdlomaa
open Go Go.Proofs

instance : IsVar Try.prog 2 false 1 := ⟨Try.isAgg2, Try.sizeOf2⟩
instance : IsNew Try.prog 2 [vlit (.int .i64 0)] := ⟨⟨_, Try.zeroValue2, fun _ => .cons rfl (.nil)⟩⟩
instance : IsVar Try.prog 3 false 1 := ⟨Try.isAgg3, Try.sizeOf3⟩
instance : IsNew Try.prog 3 [vlit (.int .i64 0)] := ⟨⟨_, Try.zeroValue3, fun _ => .cons rfl (.nil)⟩⟩
instance : IsVar Try.prog 4 false 1 := ⟨Try.isAgg4, Try.sizeOf4⟩
instance : IsNew Try.prog 4 [vlit (.bool false)] := ⟨⟨_, Try.zeroValue4, fun _ => .cons rfl (.nil)⟩⟩
instance : IsBool Try.prog 4 := ⟨Try.underlying4⟩
instance : IsVar Try.prog 5 false 1 := ⟨Try.isAgg5, Try.sizeOf5⟩
instance : IsNew Try.prog 5 [vlit (.int .u8 0)] := ⟨⟨_, Try.zeroValue5, fun _ => .cons rfl (.nil)⟩⟩
instance : IsVar Try.prog 6 false 1 := ⟨Try.isAgg6, Try.sizeOf6⟩
instance : IsNew Try.prog 6 [vlit (.int .u8 0)] := ⟨⟨_, Try.zeroValue6, fun _ => .cons rfl (.nil)⟩⟩
instance : IsVar Try.prog 7 true 4 := ⟨Try.isAgg7, Try.sizeOf7⟩
instance : IsNew Try.prog 7 [vlit (.int .i64 0), vlit (.int .i64 0), vlit (.bool false), vlit (.int .u8 0)] := ⟨⟨_, Try.zeroValue7, fun _ => .cons rfl (.cons rfl (.cons rfl (.cons rfl (.nil))))⟩⟩
instance : IsStruct Try.prog 7 [(0, 1), (1, 1), (2, 1), (3, 1)] := ⟨⟨_, Try.underlying7, fun w => by simp [Try.sizeOf2, Try.sizeOf3, Try.sizeOf4, Try.sizeOf6]⟩⟩
instance : IsFld Try.prog 7 0 0 1 := ⟨⟨_, _, Try.underlying7, rfl, rfl, Try.sizeOf2, by decide⟩⟩
instance : IsFld Try.prog 7 1 1 1 := ⟨⟨_, _, Try.underlying7, rfl, rfl, Try.sizeOf3, by decide⟩⟩
instance : IsFld Try.prog 7 2 2 1 := ⟨⟨_, _, Try.underlying7, rfl, rfl, Try.sizeOf4, by decide⟩⟩
instance : IsFld Try.prog 7 3 3 1 := ⟨⟨_, _, Try.underlying7, rfl, rfl, Try.sizeOf6, by decide⟩⟩
instance : IsVar Try.prog 8 true 4 := ⟨Try.isAgg8, Try.sizeOf8⟩
instance : IsNew Try.prog 8 [vlit (.int .i64 0), vlit (.int .i64 0), vlit (.bool false), vlit (.int .u8 0)] := ⟨⟨_, Try.zeroValue8, fun _ => .cons rfl (.cons rfl (.cons rfl (.cons rfl (.nil))))⟩⟩
instance : IsStruct Try.prog 8 [(0, 1), (1, 1), (2, 1), (3, 1)] := ⟨⟨_, Try.underlying8, fun w => by simp [Try.sizeOf2, Try.sizeOf3, Try.sizeOf4, Try.sizeOf6]⟩⟩
instance : IsFld Try.prog 8 0 0 1 := ⟨⟨_, _, Try.underlying8, rfl, rfl, Try.sizeOf2, by decide⟩⟩
instance : IsFld Try.prog 8 1 1 1 := ⟨⟨_, _, Try.underlying8, rfl, rfl, Try.sizeOf3, by decide⟩⟩
instance : IsFld Try.prog 8 2 2 1 := ⟨⟨_, _, Try.underlying8, rfl, rfl, Try.sizeOf4, by decide⟩⟩
instance : IsFld Try.prog 8 3 3 1 := ⟨⟨_, _, Try.underlying8, rfl, rfl, Try.sizeOf6, by decide⟩⟩
instance : IsVar Try.prog 9 false 1 := ⟨Try.isAgg9, Try.sizeOf9⟩
instance : IsNew Try.prog 9 [vlit (.string .empty)] := ⟨⟨_, Try.zeroValue9, fun _ => .cons rfl (.nil)⟩⟩
instance : IsStr Try.prog 9 := ⟨Try.underlying9⟩
instance : IsVar Try.prog 10 false 1 := ⟨Try.isAgg10, Try.sizeOf10⟩
instance : IsNew Try.prog 10 [vlit (.string .empty)] := ⟨⟨_, Try.zeroValue10, fun _ => .cons rfl (.nil)⟩⟩
instance : IsStr Try.prog 10 := ⟨Try.underlying10⟩
instance : IsVar Try.prog 11 false 1 := ⟨Try.isAgg11, Try.sizeOf11⟩
instance : IsNew Try.prog 11 [vlit (.string .empty)] := ⟨⟨_, Try.zeroValue11, fun _ => .cons rfl (.nil)⟩⟩
instance : IsStr Try.prog 11 := ⟨Try.underlying11⟩
instance : IsVar Try.prog 12 false 1 := ⟨Try.isAgg12, Try.sizeOf12⟩
instance : IsNew Try.prog 12 [vlit (.int .u64 0)] := ⟨⟨_, Try.zeroValue12, fun _ => .cons rfl (.nil)⟩⟩
instance : IsVar Try.prog 13 true 2 := ⟨Try.isAgg13, Try.sizeOf13⟩
instance : IsNew Try.prog 13 [vlit (.string .empty), vlit (.int .u64 0)] := ⟨⟨_, Try.zeroValue13, fun _ => .cons rfl (.cons rfl (.nil))⟩⟩
instance : IsStruct Try.prog 13 [(0, 1), (1, 1)] := ⟨⟨_, Try.underlying13, fun w => by simp [Try.sizeOf9, Try.sizeOf12]⟩⟩
instance : IsFld Try.prog 13 0 0 1 := ⟨⟨_, _, Try.underlying13, rfl, rfl, Try.sizeOf9, by decide⟩⟩
instance : IsFld Try.prog 13 1 1 1 := ⟨⟨_, _, Try.underlying13, rfl, rfl, Try.sizeOf12, by decide⟩⟩
instance : IsVar Try.prog 14 true 2 := ⟨Try.isAgg14, Try.sizeOf14⟩
instance : IsNew Try.prog 14 [vlit (.string .empty), vlit (.int .u64 0)] := ⟨⟨_, Try.zeroValue14, fun _ => .cons rfl (.cons rfl (.nil))⟩⟩
instance : IsStruct Try.prog 14 [(0, 1), (1, 1)] := ⟨⟨_, Try.underlying14, fun w => by simp [Try.sizeOf9, Try.sizeOf12]⟩⟩
instance : IsFld Try.prog 14 0 0 1 := ⟨⟨_, _, Try.underlying14, rfl, rfl, Try.sizeOf9, by decide⟩⟩
instance : IsFld Try.prog 14 1 1 1 := ⟨⟨_, _, Try.underlying14, rfl, rfl, Try.sizeOf12, by decide⟩⟩
instance : IsVar Try.prog 15 false 1 := ⟨Try.isAgg15, Try.sizeOf15⟩
instance : IsNew Try.prog 15 [vlit (.pointer none)] := ⟨⟨_, Try.zeroValue15, fun _ => .cons rfl (.nil)⟩⟩
instance : IsVar Try.prog 16 false 1 := ⟨Try.isAgg16, Try.sizeOf16⟩
instance : IsNew Try.prog 16 [vlit (.pointer none)] := ⟨⟨_, Try.zeroValue16, fun _ => .cons rfl (.nil)⟩⟩
instance : IsVar Try.prog 17 false 1 := ⟨Try.isAgg17, Try.sizeOf17⟩
instance : IsNew Try.prog 17 [vlit (.pointer none)] := ⟨⟨_, Try.zeroValue17, fun _ => .cons rfl (.nil)⟩⟩
instance : IsVar Try.prog 18 true 1 := ⟨Try.isAgg18, Try.sizeOf18⟩
instance : IsNew Try.prog 18 [vlit (.pointer none)] := ⟨⟨_, Try.zeroValue18, fun _ => .cons rfl (.nil)⟩⟩
instance : IsStruct Try.prog 18 [(0, 1)] := ⟨⟨_, Try.underlying18, fun w => by simp [Try.sizeOf17]⟩⟩
instance : IsFld Try.prog 18 0 0 1 := ⟨⟨_, _, Try.underlying18, rfl, rfl, Try.sizeOf17, by decide⟩⟩
instance : IsVar Try.prog 19 true 1 := ⟨Try.isAgg19, Try.sizeOf19⟩
instance : IsNew Try.prog 19 [vlit (.pointer none)] := ⟨⟨_, Try.zeroValue19, fun _ => .cons rfl (.nil)⟩⟩
instance : IsStruct Try.prog 19 [(0, 1)] := ⟨⟨_, Try.underlying19, fun w => by simp [Try.sizeOf17]⟩⟩
instance : IsFld Try.prog 19 0 0 1 := ⟨⟨_, _, Try.underlying19, rfl, rfl, Try.sizeOf17, by decide⟩⟩
instance : IsVar Try.prog 21 false 1 := ⟨Try.isAgg21, Try.sizeOf21⟩
instance : IsNew Try.prog 21 [vlit (.int .i32 0)] := ⟨⟨_, Try.zeroValue21, fun _ => .cons rfl (.nil)⟩⟩
instance : IsVar Try.prog 22 false 1 := ⟨Try.isAgg22, Try.sizeOf22⟩
instance : IsNew Try.prog 22 [vlit (.slice none 0 0)] := ⟨⟨_, Try.zeroValue22, fun _ => .cons rfl (.nil)⟩⟩
instance : IsSl Try.prog 22 115 2 := ⟨Try.underlying22, Try.sizeOf115⟩
instance : IsSlM Try.prog 22 115 2 48 (.agg #[.slice none 0 0, .slice none 0 0]) := ⟨⟨Try.t115, Try.underlying22, by kernel_rfl, rfl, rfl, rfl, rfl, by decide⟩⟩
instance : IsVar Try.prog 23 true 2 := ⟨Try.isAgg23, Try.sizeOf23⟩
instance : IsNew Try.prog 23 [vlit (.int .i64 0), vlit (.slice none 0 0)] := ⟨⟨_, Try.zeroValue23, fun _ => .cons rfl (.cons rfl (.nil))⟩⟩
instance : IsStruct Try.prog 23 [(0, 1), (1, 1)] := ⟨⟨_, Try.underlying23, fun w => by simp [Try.sizeOf3, Try.sizeOf22]⟩⟩
instance : IsFld Try.prog 23 0 0 1 := ⟨⟨_, _, Try.underlying23, rfl, rfl, Try.sizeOf3, by decide⟩⟩
instance : IsFld Try.prog 23 1 1 1 := ⟨⟨_, _, Try.underlying23, rfl, rfl, Try.sizeOf22, by decide⟩⟩
instance : IsVar Try.prog 24 true 2 := ⟨Try.isAgg24, Try.sizeOf24⟩
instance : IsNew Try.prog 24 [vlit (.int .i64 0), vlit (.slice none 0 0)] := ⟨⟨_, Try.zeroValue24, fun _ => .cons rfl (.cons rfl (.nil))⟩⟩
instance : IsStruct Try.prog 24 [(0, 1), (1, 1)] := ⟨⟨_, Try.underlying24, fun w => by simp [Try.sizeOf3, Try.sizeOf22]⟩⟩
instance : IsFld Try.prog 24 0 0 1 := ⟨⟨_, _, Try.underlying24, rfl, rfl, Try.sizeOf3, by decide⟩⟩
instance : IsFld Try.prog 24 1 1 1 := ⟨⟨_, _, Try.underlying24, rfl, rfl, Try.sizeOf22, by decide⟩⟩
instance : IsVar Try.prog 27 false 1 := ⟨Try.isAgg27, Try.sizeOf27⟩
instance : IsNew Try.prog 27 [vlit (.slice none 0 0)] := ⟨⟨_, Try.zeroValue27, fun _ => .cons rfl (.nil)⟩⟩
instance : IsSl Try.prog 27 85 2 := ⟨Try.underlying27, Try.sizeOf85⟩
instance : IsSlM Try.prog 27 85 2 48 (.agg #[.slice none 0 0, .slice none 0 0]) := ⟨⟨Try.t85, Try.underlying27, by kernel_rfl, rfl, rfl, rfl, rfl, by decide⟩⟩
instance : IsVar Try.prog 28 true 2 := ⟨Try.isAgg28, Try.sizeOf28⟩
instance : IsNew Try.prog 28 [vlit (.int .i64 0), vlit (.slice none 0 0)] := ⟨⟨_, Try.zeroValue28, fun _ => .cons rfl (.cons rfl (.nil))⟩⟩
instance : IsStruct Try.prog 28 [(0, 1), (1, 1)] := ⟨⟨_, Try.underlying28, fun w => by simp [Try.sizeOf3, Try.sizeOf27]⟩⟩
instance : IsFld Try.prog 28 0 0 1 := ⟨⟨_, _, Try.underlying28, rfl, rfl, Try.sizeOf3, by decide⟩⟩
instance : IsFld Try.prog 28 1 1 1 := ⟨⟨_, _, Try.underlying28, rfl, rfl, Try.sizeOf27, by decide⟩⟩
instance : IsVar Try.prog 29 true 2 := ⟨Try.isAgg29, Try.sizeOf29⟩
instance : IsNew Try.prog 29 [vlit (.int .i64 0), vlit (.slice none 0 0)] := ⟨⟨_, Try.zeroValue29, fun _ => .cons rfl (.cons rfl (.nil))⟩⟩
instance : IsStruct Try.prog 29 [(0, 1), (1, 1)] := ⟨⟨_, Try.underlying29, fun w => by simp [Try.sizeOf3, Try.sizeOf27]⟩⟩
instance : IsFld Try.prog 29 0 0 1 := ⟨⟨_, _, Try.underlying29, rfl, rfl, Try.sizeOf3, by decide⟩⟩
instance : IsFld Try.prog 29 1 1 1 := ⟨⟨_, _, Try.underlying29, rfl, rfl, Try.sizeOf27, by decide⟩⟩
instance : IsVar Try.prog 33 false 1 := ⟨Try.isAgg33, Try.sizeOf33⟩
instance : IsNew Try.prog 33 [vlit (.slice none 0 0)] := ⟨⟨_, Try.zeroValue33, fun _ => .cons rfl (.nil)⟩⟩
instance : IsSl Try.prog 33 43 1 := ⟨Try.underlying33, Try.sizeOf43⟩
instance : IsSlM Try.prog 33 43 1 24 (.slice none 0 0) := ⟨⟨Try.t43, Try.underlying33, by kernel_rfl, rfl, rfl, rfl, rfl, by decide⟩⟩
instance : IsVar Try.prog 34 true 2 := ⟨Try.isAgg34, Try.sizeOf34⟩
instance : IsNew Try.prog 34 [vlit (.int .i64 0), vlit (.slice none 0 0)] := ⟨⟨_, Try.zeroValue34, fun _ => .cons rfl (.cons rfl (.nil))⟩⟩
instance : IsStruct Try.prog 34 [(0, 1), (1, 1)] := ⟨⟨_, Try.underlying34, fun w => by simp [Try.sizeOf3, Try.sizeOf33]⟩⟩
instance : IsFld Try.prog 34 0 0 1 := ⟨⟨_, _, Try.underlying34, rfl, rfl, Try.sizeOf3, by decide⟩⟩
instance : IsFld Try.prog 34 1 1 1 := ⟨⟨_, _, Try.underlying34, rfl, rfl, Try.sizeOf33, by decide⟩⟩
instance : IsVar Try.prog 35 true 2 := ⟨Try.isAgg35, Try.sizeOf35⟩
instance : IsNew Try.prog 35 [vlit (.int .i64 0), vlit (.slice none 0 0)] := ⟨⟨_, Try.zeroValue35, fun _ => .cons rfl (.cons rfl (.nil))⟩⟩
instance : IsStruct Try.prog 35 [(0, 1), (1, 1)] := ⟨⟨_, Try.underlying35, fun w => by simp [Try.sizeOf3, Try.sizeOf33]⟩⟩
instance : IsFld Try.prog 35 0 0 1 := ⟨⟨_, _, Try.underlying35, rfl, rfl, Try.sizeOf3, by decide⟩⟩
instance : IsFld Try.prog 35 1 1 1 := ⟨⟨_, _, Try.underlying35, rfl, rfl, Try.sizeOf33, by decide⟩⟩
instance : IsVar Try.prog 39 true 2 := ⟨Try.isAgg39, Try.sizeOf39⟩
instance : IsNew Try.prog 39 [vlit (.int .i64 0), vlit (.slice none 0 0)] := ⟨⟨_, Try.zeroValue39, fun _ => .cons rfl (.cons rfl (.nil))⟩⟩
instance : IsStruct Try.prog 39 [(0, 1), (1, 1)] := ⟨⟨_, Try.underlying39, fun w => by simp [Try.sizeOf3, Try.sizeOf33]⟩⟩
instance : IsFld Try.prog 39 0 0 1 := ⟨⟨_, _, Try.underlying39, rfl, rfl, Try.sizeOf3, by decide⟩⟩
instance : IsFld Try.prog 39 1 1 1 := ⟨⟨_, _, Try.underlying39, rfl, rfl, Try.sizeOf33, by decide⟩⟩
instance : IsVar Try.prog 43 false 1 := ⟨Try.isAgg43, Try.sizeOf43⟩
instance : IsNew Try.prog 43 [vlit (.slice none 0 0)] := ⟨⟨_, Try.zeroValue43, fun _ => .cons rfl (.nil)⟩⟩
instance : IsSl Try.prog 43 3 1 := ⟨Try.underlying43, Try.sizeOf3⟩
instance : IsSlM Try.prog 43 3 1 8 (.int .i64 0) := ⟨⟨Try.t3, Try.underlying43, by kernel_rfl, rfl, rfl, rfl, rfl, by decide⟩⟩
instance : IsVar Try.prog 44 true 2 := ⟨Try.isAgg44, Try.sizeOf44⟩
instance : IsNew Try.prog 44 [vlit (.int .i64 0), vlit (.slice none 0 0)] := ⟨⟨_, Try.zeroValue44, fun _ => .cons rfl (.cons rfl (.nil))⟩⟩
instance : IsStruct Try.prog 44 [(0, 1), (1, 1)] := ⟨⟨_, Try.underlying44, fun w => by simp [Try.sizeOf3, Try.sizeOf43]⟩⟩
instance : IsFld Try.prog 44 0 0 1 := ⟨⟨_, _, Try.underlying44, rfl, rfl, Try.sizeOf3, by decide⟩⟩
instance : IsFld Try.prog 44 1 1 1 := ⟨⟨_, _, Try.underlying44, rfl, rfl, Try.sizeOf43, by decide⟩⟩
instance : IsVar Try.prog 45 true 2 := ⟨Try.isAgg45, Try.sizeOf45⟩
instance : IsNew Try.prog 45 [vlit (.int .i64 0), vlit (.slice none 0 0)] := ⟨⟨_, Try.zeroValue45, fun _ => .cons rfl (.cons rfl (.nil))⟩⟩
instance : IsStruct Try.prog 45 [(0, 1), (1, 1)] := ⟨⟨_, Try.underlying45, fun w => by simp [Try.sizeOf3, Try.sizeOf43]⟩⟩
instance : IsFld Try.prog 45 0 0 1 := ⟨⟨_, _, Try.underlying45, rfl, rfl, Try.sizeOf3, by decide⟩⟩
instance : IsFld Try.prog 45 1 1 1 := ⟨⟨_, _, Try.underlying45, rfl, rfl, Try.sizeOf43, by decide⟩⟩
instance : IsVar Try.prog 49 true 2 := ⟨Try.isAgg49, Try.sizeOf49⟩
instance : IsNew Try.prog 49 [vlit (.int .i64 0), vlit (.slice none 0 0)] := ⟨⟨_, Try.zeroValue49, fun _ => .cons rfl (.cons rfl (.nil))⟩⟩
instance : IsStruct Try.prog 49 [(0, 1), (1, 1)] := ⟨⟨_, Try.underlying49, fun w => by simp [Try.sizeOf3, Try.sizeOf43]⟩⟩
instance : IsFld Try.prog 49 0 0 1 := ⟨⟨_, _, Try.underlying49, rfl, rfl, Try.sizeOf3, by decide⟩⟩
instance : IsFld Try.prog 49 1 1 1 := ⟨⟨_, _, Try.underlying49, rfl, rfl, Try.sizeOf43, by decide⟩⟩
instance : IsVar Try.prog 59 false 1 := ⟨Try.isAgg59, Try.sizeOf59⟩
instance : IsNew Try.prog 59 [vlit (.slice none 0 0)] := ⟨⟨_, Try.zeroValue59, fun _ => .cons rfl (.nil)⟩⟩
instance : IsSl Try.prog 59 35 2 := ⟨Try.underlying59, Try.sizeOf35⟩
instance : IsSlM Try.prog 59 35 2 32 (.agg #[.int .i64 0, .slice none 0 0]) := ⟨⟨Try.t35, Try.underlying59, by kernel_rfl, rfl, rfl, rfl, rfl, by decide⟩⟩
instance : IsVar Try.prog 62 false 1 := ⟨Try.isAgg62, Try.sizeOf62⟩
instance : IsNew Try.prog 62 [vlit (.slice none 0 0)] := ⟨⟨_, Try.zeroValue62, fun _ => .cons rfl (.nil)⟩⟩
instance : IsSl Try.prog 62 39 2 := ⟨Try.underlying62, Try.sizeOf39⟩
instance : IsSlM Try.prog 62 39 2 32 (.agg #[.int .i64 0, .slice none 0 0]) := ⟨⟨Try.t39, Try.underlying62, by kernel_rfl, rfl, rfl, rfl, rfl, by decide⟩⟩
instance : IsVar Try.prog 84 true 2 := ⟨Try.isAgg84, Try.sizeOf84⟩
instance : IsNew Try.prog 84 [vlit (.slice none 0 0), vlit (.slice none 0 0)] := ⟨⟨_, Try.zeroValue84, fun _ => .cons rfl (.cons rfl (.nil))⟩⟩
instance : IsStruct Try.prog 84 [(0, 1), (1, 1)] := ⟨⟨_, Try.underlying84, fun w => by simp [Try.sizeOf43]⟩⟩
instance : IsFld Try.prog 84 0 0 1 := ⟨⟨_, _, Try.underlying84, rfl, rfl, Try.sizeOf43, by decide⟩⟩
instance : IsFld Try.prog 84 1 1 1 := ⟨⟨_, _, Try.underlying84, rfl, rfl, Try.sizeOf43, by decide⟩⟩
instance : IsVar Try.prog 85 true 2 := ⟨Try.isAgg85, Try.sizeOf85⟩
instance : IsNew Try.prog 85 [vlit (.slice none 0 0), vlit (.slice none 0 0)] := ⟨⟨_, Try.zeroValue85, fun _ => .cons rfl (.cons rfl (.nil))⟩⟩
instance : IsStruct Try.prog 85 [(0, 1), (1, 1)] := ⟨⟨_, Try.underlying85, fun w => by simp [Try.sizeOf43]⟩⟩
instance : IsFld Try.prog 85 0 0 1 := ⟨⟨_, _, Try.underlying85, rfl, rfl, Try.sizeOf43, by decide⟩⟩
instance : IsFld Try.prog 85 1 1 1 := ⟨⟨_, _, Try.underlying85, rfl, rfl, Try.sizeOf43, by decide⟩⟩
instance : IsVar Try.prog 96 false 1 := ⟨Try.isAgg96, Try.sizeOf96⟩
instance : IsNew Try.prog 96 [vlit (.slice none 0 0)] := ⟨⟨_, Try.zeroValue96, fun _ => .cons rfl (.nil)⟩⟩
instance : IsSl Try.prog 96 98 1 := ⟨Try.underlying96, Try.sizeOf98⟩
instance : IsSlM Try.prog 96 98 1 24 (.slice none 0 0) := ⟨⟨Try.t98, Try.underlying96, by kernel_rfl, rfl, rfl, rfl, rfl, by decide⟩⟩
instance : IsVar Try.prog 98 false 1 := ⟨Try.isAgg98, Try.sizeOf98⟩
instance : IsNew Try.prog 98 [vlit (.slice none 0 0)] := ⟨⟨_, Try.zeroValue98, fun _ => .cons rfl (.nil)⟩⟩
instance : IsSl Try.prog 98 4 1 := ⟨Try.underlying98, Try.sizeOf4⟩
instance : IsSlM Try.prog 98 4 1 1 (.bool false) := ⟨⟨Try.t4, Try.underlying98, by kernel_rfl, rfl, rfl, rfl, rfl, by decide⟩⟩
instance : IsVar Try.prog 104 false 1 := ⟨Try.isAgg104, Try.sizeOf104⟩
instance : IsNew Try.prog 104 [vlit (.map none)] := ⟨⟨_, Try.zeroValue104, fun _ => .cons rfl (.nil)⟩⟩
instance : IsVar Try.prog 115 true 2 := ⟨Try.isAgg115, Try.sizeOf115⟩
instance : IsNew Try.prog 115 [vlit (.slice none 0 0), vlit (.slice none 0 0)] := ⟨⟨_, Try.zeroValue115, fun _ => .cons rfl (.cons rfl (.nil))⟩⟩
instance : IsStruct Try.prog 115 [(0, 1), (1, 1)] := ⟨⟨_, Try.underlying115, fun w => by simp [Try.sizeOf43]⟩⟩
instance : IsFld Try.prog 115 0 0 1 := ⟨⟨_, _, Try.underlying115, rfl, rfl, Try.sizeOf43, by decide⟩⟩
instance : IsFld Try.prog 115 1 1 1 := ⟨⟨_, _, Try.underlying115, rfl, rfl, Try.sizeOf43, by decide⟩⟩
instance : IsVar Try.prog 126 false 1 := ⟨Try.isAgg126, Try.sizeOf126⟩
instance : IsNew Try.prog 126 [vlit (.slice none 0 0)] := ⟨⟨_, Try.zeroValue126, fun _ => .cons rfl (.nil)⟩⟩
instance : IsSl Try.prog 126 5 1 := ⟨Try.underlying126, Try.sizeOf5⟩
instance : IsSlM Try.prog 126 5 1 1 (.int .u8 0) := ⟨⟨Try.t5, Try.underlying126, by kernel_rfl, rfl, rfl, rfl, rfl, by decide⟩⟩
instance : IsVar Try.prog 127 false 1 := ⟨Try.isAgg127, Try.sizeOf127⟩
instance : IsNew Try.prog 127 [vlit (.int .u64 0)] := ⟨⟨_, Try.zeroValue127, fun _ => .cons rfl (.nil)⟩⟩
instance : IsVar Try.prog 133 false 1 := ⟨Try.isAgg133, Try.sizeOf133⟩
instance : IsNew Try.prog 133 [vlit (.slice none 0 0)] := ⟨⟨_, Try.zeroValue133, fun _ => .cons rfl (.nil)⟩⟩
instance : IsSl Try.prog 133 49 2 := ⟨Try.underlying133, Try.sizeOf49⟩
instance : IsSlM Try.prog 133 49 2 32 (.agg #[.int .i64 0, .slice none 0 0]) := ⟨⟨Try.t49, Try.underlying133, by kernel_rfl, rfl, rfl, rfl, rfl, by decide⟩⟩
instance : IsVar Try.prog 134 true 2 := ⟨Try.isAgg134, Try.sizeOf134⟩
instance : IsNew Try.prog 134 [vlit (.int .i64 0), vlit (.slice none 0 0)] := ⟨⟨_, Try.zeroValue134, fun _ => .cons rfl (.cons rfl (.nil))⟩⟩
instance : IsStruct Try.prog 134 [(0, 1), (1, 1)] := ⟨⟨_, Try.underlying134, fun w => by simp [Try.sizeOf3, Try.sizeOf133]⟩⟩
instance : IsFld Try.prog 134 0 0 1 := ⟨⟨_, _, Try.underlying134, rfl, rfl, Try.sizeOf3, by decide⟩⟩
instance : IsFld Try.prog 134 1 1 1 := ⟨⟨_, _, Try.underlying134, rfl, rfl, Try.sizeOf133, by decide⟩⟩
instance : IsVar Try.prog 135 true 2 := ⟨Try.isAgg135, Try.sizeOf135⟩
instance : IsNew Try.prog 135 [vlit (.int .i64 0), vlit (.slice none 0 0)] := ⟨⟨_, Try.zeroValue135, fun _ => .cons rfl (.cons rfl (.nil))⟩⟩
instance : IsStruct Try.prog 135 [(0, 1), (1, 1)] := ⟨⟨_, Try.underlying135, fun w => by simp [Try.sizeOf3, Try.sizeOf133]⟩⟩
instance : IsFld Try.prog 135 0 0 1 := ⟨⟨_, _, Try.underlying135, rfl, rfl, Try.sizeOf3, by decide⟩⟩
instance : IsFld Try.prog 135 1 1 1 := ⟨⟨_, _, Try.underlying135, rfl, rfl, Try.sizeOf133, by decide⟩⟩
instance : IsVar Try.prog 137 true 4 := ⟨Try.isAgg137, Try.sizeOf137⟩
instance : IsNew Try.prog 137 [vlit (.pointer none), vlit (.pointer none), vlit (.pointer none), vlit (.string .empty)] := ⟨⟨_, Try.zeroValue137, fun _ => .cons rfl (.cons rfl (.cons rfl (.cons rfl (.nil))))⟩⟩
instance : IsStruct Try.prog 137 [(0, 1), (1, 1), (2, 1), (3, 1)] := ⟨⟨_, Try.underlying137, fun w => by simp [Try.sizeOf9, Try.sizeOf17]⟩⟩
instance : IsFld Try.prog 137 0 0 1 := ⟨⟨_, _, Try.underlying137, rfl, rfl, Try.sizeOf17, by decide⟩⟩
instance : IsFld Try.prog 137 1 1 1 := ⟨⟨_, _, Try.underlying137, rfl, rfl, Try.sizeOf17, by decide⟩⟩
instance : IsFld Try.prog 137 2 2 1 := ⟨⟨_, _, Try.underlying137, rfl, rfl, Try.sizeOf17, by decide⟩⟩
instance : IsFld Try.prog 137 3 3 1 := ⟨⟨_, _, Try.underlying137, rfl, rfl, Try.sizeOf9, by decide⟩⟩
instance : IsVar Try.prog 138 true 4 := ⟨Try.isAgg138, Try.sizeOf138⟩
instance : IsNew Try.prog 138 [vlit (.pointer none), vlit (.pointer none), vlit (.pointer none), vlit (.string .empty)] := ⟨⟨_, Try.zeroValue138, fun _ => .cons rfl (.cons rfl (.cons rfl (.cons rfl (.nil))))⟩⟩
instance : IsStruct Try.prog 138 [(0, 1), (1, 1), (2, 1), (3, 1)] := ⟨⟨_, Try.underlying138, fun w => by simp [Try.sizeOf9, Try.sizeOf17]⟩⟩
instance : IsFld Try.prog 138 0 0 1 := ⟨⟨_, _, Try.underlying138, rfl, rfl, Try.sizeOf17, by decide⟩⟩
instance : IsFld Try.prog 138 1 1 1 := ⟨⟨_, _, Try.underlying138, rfl, rfl, Try.sizeOf17, by decide⟩⟩
instance : IsFld Try.prog 138 2 2 1 := ⟨⟨_, _, Try.underlying138, rfl, rfl, Try.sizeOf17, by decide⟩⟩
instance : IsFld Try.prog 138 3 3 1 := ⟨⟨_, _, Try.underlying138, rfl, rfl, Try.sizeOf9, by decide⟩⟩
instance : IsVar Try.prog 139 true 0 := ⟨Try.isAgg139, Try.sizeOf139⟩
instance : IsNew Try.prog 139 [] := ⟨⟨_, Try.zeroValue139, fun _ => .nil⟩⟩
instance : IsVar Try.prog 140 true 0 := ⟨Try.isAgg140, Try.sizeOf140⟩
instance : IsNew Try.prog 140 [] := ⟨⟨_, Try.zeroValue140, fun _ => .nil⟩⟩
instance : IsVar Try.prog 141 true 0 := ⟨Try.isAgg141, Try.sizeOf141⟩
instance : IsNew Try.prog 141 [] := ⟨⟨_, Try.zeroValue141, fun _ => .nil⟩⟩
instance : IsVar Try.prog 143 false 1 := ⟨Try.isAgg143, Try.sizeOf143⟩
instance : IsNew Try.prog 143 [vlit (.int .u32 0)] := ⟨⟨_, Try.zeroValue143, fun _ => .cons rfl (.nil)⟩⟩
instance : IsVar Try.prog 144 false 1 := ⟨Try.isAgg144, Try.sizeOf144⟩
instance : IsNew Try.prog 144 [vlit (.int .u8 0)] := ⟨⟨_, Try.zeroValue144, fun _ => .cons rfl (.nil)⟩⟩
instance : IsVar Try.prog 145 false 1 := ⟨Try.isAgg145, Try.sizeOf145⟩
instance : IsNew Try.prog 145 [vlit (.int .u8 0)] := ⟨⟨_, Try.zeroValue145, fun _ => .cons rfl (.nil)⟩⟩
instance : IsVar Try.prog 147 false 1 := ⟨Try.isAgg147, Try.sizeOf147⟩
instance : IsNew Try.prog 147 [vlit (.pointer none)] := ⟨⟨_, Try.zeroValue147, fun _ => .cons rfl (.nil)⟩⟩
instance : IsVar Try.prog 148 false 1 := ⟨Try.isAgg148, Try.sizeOf148⟩
instance : IsNew Try.prog 148 [vlit (.int .i32 0)] := ⟨⟨_, Try.zeroValue148, fun _ => .cons rfl (.nil)⟩⟩
instance : IsVar Try.prog 149 false 1 := ⟨Try.isAgg149, Try.sizeOf149⟩
instance : IsNew Try.prog 149 [vlit (.int .i32 0)] := ⟨⟨_, Try.zeroValue149, fun _ => .cons rfl (.nil)⟩⟩
instance : IsVar Try.prog 150 true 11 := ⟨Try.isAgg150, Try.sizeOf150⟩
instance : IsNew Try.prog 150 [vlit (.int .u64 0), vlit (.int .u64 0), vlit (.int .u32 0), vlit (.int .u8 0), vlit (.int .u8 0), vlit (.int .u8 0), vlit (.int .u8 0), vlit (.nilFunc), vlit (.pointer none), vlit (.int .i32 0), vlit (.int .i32 0)] := ⟨⟨_, Try.zeroValue150, fun _ => .cons rfl (.cons rfl (.cons rfl (.cons rfl (.cons rfl (.cons rfl (.cons rfl (.cons rfl (.cons rfl (.cons rfl (.cons rfl (.nil)))))))))))⟩⟩
instance : IsStruct Try.prog 150 [(0, 1), (1, 1), (2, 1), (3, 1), (4, 1), (5, 1), (6, 1), (7, 1), (8, 1), (9, 1), (10, 1)] := ⟨⟨_, Try.underlying150, fun w => by simp [Try.sizeOf5, Try.sizeOf12, Try.sizeOf143, Try.sizeOf144, Try.sizeOf145, Try.sizeOf146, Try.sizeOf147, Try.sizeOf148, Try.sizeOf149]⟩⟩
instance : IsFld Try.prog 150 0 0 1 := ⟨⟨_, _, Try.underlying150, rfl, rfl, Try.sizeOf12, by decide⟩⟩
instance : IsFld Try.prog 150 1 1 1 := ⟨⟨_, _, Try.underlying150, rfl, rfl, Try.sizeOf12, by decide⟩⟩
instance : IsFld Try.prog 150 2 2 1 := ⟨⟨_, _, Try.underlying150, rfl, rfl, Try.sizeOf143, by decide⟩⟩
instance : IsFld Try.prog 150 3 3 1 := ⟨⟨_, _, Try.underlying150, rfl, rfl, Try.sizeOf144, by decide⟩⟩
instance : IsFld Try.prog 150 4 4 1 := ⟨⟨_, _, Try.underlying150, rfl, rfl, Try.sizeOf5, by decide⟩⟩
instance : IsFld Try.prog 150 5 5 1 := ⟨⟨_, _, Try.underlying150, rfl, rfl, Try.sizeOf5, by decide⟩⟩
instance : IsFld Try.prog 150 6 6 1 := ⟨⟨_, _, Try.underlying150, rfl, rfl, Try.sizeOf145, by decide⟩⟩
instance : IsFld Try.prog 150 7 7 1 := ⟨⟨_, _, Try.underlying150, rfl, rfl, Try.sizeOf146, by decide⟩⟩
instance : IsFld Try.prog 150 8 8 1 := ⟨⟨_, _, Try.underlying150, rfl, rfl, Try.sizeOf147, by decide⟩⟩
instance : IsFld Try.prog 150 9 9 1 := ⟨⟨_, _, Try.underlying150, rfl, rfl, Try.sizeOf148, by decide⟩⟩
instance : IsFld Try.prog 150 10 10 1 := ⟨⟨_, _, Try.underlying150, rfl, rfl, Try.sizeOf149, by decide⟩⟩
instance : IsVar Try.prog 151 true 11 := ⟨Try.isAgg151, Try.sizeOf151⟩
instance : IsNew Try.prog 151 [vlit (.int .u64 0), vlit (.int .u64 0), vlit (.int .u32 0), vlit (.int .u8 0), vlit (.int .u8 0), vlit (.int .u8 0), vlit (.int .u8 0), vlit (.nilFunc), vlit (.pointer none), vlit (.int .i32 0), vlit (.int .i32 0)] := ⟨⟨_, Try.zeroValue151, fun _ => .cons rfl (.cons rfl (.cons rfl (.cons rfl (.cons rfl (.cons rfl (.cons rfl (.cons rfl (.cons rfl (.cons rfl (.cons rfl (.nil)))))))))))⟩⟩
instance : IsStruct Try.prog 151 [(0, 1), (1, 1), (2, 1), (3, 1), (4, 1), (5, 1), (6, 1), (7, 1), (8, 1), (9, 1), (10, 1)] := ⟨⟨_, Try.underlying151, fun w => by simp [Try.sizeOf5, Try.sizeOf12, Try.sizeOf143, Try.sizeOf144, Try.sizeOf145, Try.sizeOf146, Try.sizeOf147, Try.sizeOf148, Try.sizeOf149]⟩⟩
instance : IsFld Try.prog 151 0 0 1 := ⟨⟨_, _, Try.underlying151, rfl, rfl, Try.sizeOf12, by decide⟩⟩
instance : IsFld Try.prog 151 1 1 1 := ⟨⟨_, _, Try.underlying151, rfl, rfl, Try.sizeOf12, by decide⟩⟩
instance : IsFld Try.prog 151 2 2 1 := ⟨⟨_, _, Try.underlying151, rfl, rfl, Try.sizeOf143, by decide⟩⟩
instance : IsFld Try.prog 151 3 3 1 := ⟨⟨_, _, Try.underlying151, rfl, rfl, Try.sizeOf144, by decide⟩⟩
instance : IsFld Try.prog 151 4 4 1 := ⟨⟨_, _, Try.underlying151, rfl, rfl, Try.sizeOf5, by decide⟩⟩
instance : IsFld Try.prog 151 5 5 1 := ⟨⟨_, _, Try.underlying151, rfl, rfl, Try.sizeOf5, by decide⟩⟩
instance : IsFld Try.prog 151 6 6 1 := ⟨⟨_, _, Try.underlying151, rfl, rfl, Try.sizeOf145, by decide⟩⟩
instance : IsFld Try.prog 151 7 7 1 := ⟨⟨_, _, Try.underlying151, rfl, rfl, Try.sizeOf146, by decide⟩⟩
instance : IsFld Try.prog 151 8 8 1 := ⟨⟨_, _, Try.underlying151, rfl, rfl, Try.sizeOf147, by decide⟩⟩
instance : IsFld Try.prog 151 9 9 1 := ⟨⟨_, _, Try.underlying151, rfl, rfl, Try.sizeOf148, by decide⟩⟩
instance : IsFld Try.prog 151 10 10 1 := ⟨⟨_, _, Try.underlying151, rfl, rfl, Try.sizeOf149, by decide⟩⟩
end Go.Proofs.Ytagdbcgpcdlomaa
