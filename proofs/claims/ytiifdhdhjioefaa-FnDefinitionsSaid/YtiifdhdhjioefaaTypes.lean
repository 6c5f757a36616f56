/- The facts on the types of this translation, as class instances. No conditions. -/
import Derived.Test.YtiifdhdhjioefaaProg
import Derived.KernelRfl
import Derived.Test.YtiifdhdhjioefaaCoreZ
namespace Go.Proofs.Ytiifdhdhjioefaa
open Go Go.Proofs

instance : IsVar Try.prog 1 false 1 := ⟨Try.isAgg1, Try.sizeOf1⟩
instance : IsNew Try.prog 1 [vlit (.nilFunc)] := ⟨⟨_, Try.zeroValue1, fun _ => .cons rfl (.nil)⟩⟩
instance : IsVar Try.prog 2 false 1 := ⟨Try.isAgg2, Try.sizeOf2⟩
instance : IsNew Try.prog 2 [vlit (.int .i64 0)] := ⟨⟨_, Try.zeroValue2, fun _ => .cons rfl (.nil)⟩⟩
instance : IsI64 Try.prog 2 := ⟨Try.underlying2⟩
instance : IsVar Try.prog 3 false 1 := ⟨Try.isAgg3, Try.sizeOf3⟩
instance : IsNew Try.prog 3 [vlit (.int .i64 0)] := ⟨⟨_, Try.zeroValue3, fun _ => .cons rfl (.nil)⟩⟩
instance : IsI64 Try.prog 3 := ⟨Try.underlying3⟩
instance : IsVar Try.prog 4 false 1 := ⟨Try.isAgg4, Try.sizeOf4⟩
instance : IsNew Try.prog 4 [vlit (.bool false)] := ⟨⟨_, Try.zeroValue4, fun _ => .cons rfl (.nil)⟩⟩
instance : IsBool Try.prog 4 := ⟨Try.underlying4⟩
instance : IsVar Try.prog 5 false 1 := ⟨Try.isAgg5, Try.sizeOf5⟩
instance : IsNew Try.prog 5 [vlit (.int .u8 0)] := ⟨⟨_, Try.zeroValue5, fun _ => .cons rfl (.nil)⟩⟩
instance : IsU8 Try.prog 5 := ⟨Try.underlying5⟩
instance : IsVar Try.prog 6 false 1 := ⟨Try.isAgg6, Try.sizeOf6⟩
instance : IsNew Try.prog 6 [vlit (.int .u8 0)] := ⟨⟨_, Try.zeroValue6, fun _ => .cons rfl (.nil)⟩⟩
instance : IsU8 Try.prog 6 := ⟨Try.underlying6⟩
instance : IsVar Try.prog 7 true 4 := ⟨Try.isAgg7, Try.sizeOf7⟩
instance : IsNew Try.prog 7 [vlit (.int .i64 0), vlit (.int .i64 0), vlit (.bool false), vlit (.int .u8 0)] := ⟨⟨_, Try.zeroValue7, fun _ => .cons rfl (.cons rfl (.cons rfl (.cons rfl (.nil))))⟩⟩
instance : IsStruct Try.prog 7 [(0, 1), (1, 1), (2, 1), (3, 1)] := ⟨⟨_, Try.underlying7, fun w => by simp [Try.sizeOf2, Try.sizeOf3, Try.sizeOf4, Try.sizeOf6]⟩⟩
instance : IsFld Try.prog 7 0 0 1 := ⟨⟨_, _, Try.underlying7, rfl, rfl, Try.sizeOf2, by decide⟩⟩
instance : IsFld Try.prog 7 1 1 1 := ⟨⟨_, _, Try.underlying7, rfl, rfl, Try.sizeOf3, by decide⟩⟩
instance : IsFld Try.prog 7 2 2 1 := ⟨⟨_, _, Try.underlying7, rfl, rfl, Try.sizeOf4, by decide⟩⟩
instance : IsFld Try.prog 7 3 3 1 := ⟨⟨_, _, Try.underlying7, rfl, rfl, Try.sizeOf6, by decide⟩⟩
instance : IsVar Try.prog 8 true 4 := ⟨Try.isAgg8, Try.sizeOf8⟩
instance : IsNew Try.prog 8 [vlit (.int .i64 0), vlit (.int .i64 0), vlit (.bool false), vlit (.int .u8 0)] := ⟨⟨_, Try.zeroValue8, fun _ => .cons rfl (.cons rfl (.cons rfl (.cons rfl (.nil))))⟩⟩
instance : IsStruct Try.prog 8 [(0, 1), (1, 1), (2, 1), (3, 1)] := ⟨⟨_, Try.underlying8, fun w => by simp [Try.sizeOf2, Try.sizeOf3, Try.sizeOf4, Try.sizeOf6]⟩⟩
instance : IsFld Try.prog 8 0 0 1 := ⟨⟨_, _, Try.underlying8, rfl, rfl, Try.sizeOf2, by decide⟩⟩
instance : IsFld Try.prog 8 1 1 1 := ⟨⟨_, _, Try.underlying8, rfl, rfl, Try.sizeOf3, by decide⟩⟩
instance : IsFld Try.prog 8 2 2 1 := ⟨⟨_, _, Try.underlying8, rfl, rfl, Try.sizeOf4, by decide⟩⟩
instance : IsFld Try.prog 8 3 3 1 := ⟨⟨_, _, Try.underlying8, rfl, rfl, Try.sizeOf6, by decide⟩⟩
instance : IsVar Try.prog 9 false 1 := ⟨Try.isAgg9, Try.sizeOf9⟩
instance : IsNew Try.prog 9 [vlit (.string .empty)] := ⟨⟨_, Try.zeroValue9, fun _ => .cons rfl (.nil)⟩⟩
instance : IsStr Try.prog 9 := ⟨Try.underlying9⟩
instance : IsVar Try.prog 10 false 1 := ⟨Try.isAgg10, Try.sizeOf10⟩
instance : IsNew Try.prog 10 [vlit (.string .empty)] := ⟨⟨_, Try.zeroValue10, fun _ => .cons rfl (.nil)⟩⟩
instance : IsStr Try.prog 10 := ⟨Try.underlying10⟩
instance : IsVar Try.prog 11 false 1 := ⟨Try.isAgg11, Try.sizeOf11⟩
instance : IsNew Try.prog 11 [vlit (.string .empty)] := ⟨⟨_, Try.zeroValue11, fun _ => .cons rfl (.nil)⟩⟩
instance : IsStr Try.prog 11 := ⟨Try.underlying11⟩
instance : IsVar Try.prog 12 false 1 := ⟨Try.isAgg12, Try.sizeOf12⟩
instance : IsNew Try.prog 12 [vlit (.int .u64 0)] := ⟨⟨_, Try.zeroValue12, fun _ => .cons rfl (.nil)⟩⟩
instance : IsU64 Try.prog 12 := ⟨Try.underlying12⟩
instance : IsVar Try.prog 13 true 2 := ⟨Try.isAgg13, Try.sizeOf13⟩
instance : IsNew Try.prog 13 [vlit (.string .empty), vlit (.int .u64 0)] := ⟨⟨_, Try.zeroValue13, fun _ => .cons rfl (.cons rfl (.nil))⟩⟩
instance : IsStruct Try.prog 13 [(0, 1), (1, 1)] := ⟨⟨_, Try.underlying13, fun w => by simp [Try.sizeOf9, Try.sizeOf12]⟩⟩
instance : IsFld Try.prog 13 0 0 1 := ⟨⟨_, _, Try.underlying13, rfl, rfl, Try.sizeOf9, by decide⟩⟩
instance : IsFld Try.prog 13 1 1 1 := ⟨⟨_, _, Try.underlying13, rfl, rfl, Try.sizeOf12, by decide⟩⟩
instance : IsVar Try.prog 14 true 2 := ⟨Try.isAgg14, Try.sizeOf14⟩
instance : IsNew Try.prog 14 [vlit (.string .empty), vlit (.int .u64 0)] := ⟨⟨_, Try.zeroValue14, fun _ => .cons rfl (.cons rfl (.nil))⟩⟩
instance : IsStruct Try.prog 14 [(0, 1), (1, 1)] := ⟨⟨_, Try.underlying14, fun w => by simp [Try.sizeOf9, Try.sizeOf12]⟩⟩
instance : IsFld Try.prog 14 0 0 1 := ⟨⟨_, _, Try.underlying14, rfl, rfl, Try.sizeOf9, by decide⟩⟩
instance : IsFld Try.prog 14 1 1 1 := ⟨⟨_, _, Try.underlying14, rfl, rfl, Try.sizeOf12, by decide⟩⟩
instance : IsVar Try.prog 15 false 1 := ⟨Try.isAgg15, Try.sizeOf15⟩
instance : IsNew Try.prog 15 [vlit (.pointer none)] := ⟨⟨_, Try.zeroValue15, fun _ => .cons rfl (.nil)⟩⟩
instance : IsVar Try.prog 16 false 1 := ⟨Try.isAgg16, Try.sizeOf16⟩
instance : IsNew Try.prog 16 [vlit (.pointer none)] := ⟨⟨_, Try.zeroValue16, fun _ => .cons rfl (.nil)⟩⟩
instance : IsVar Try.prog 17 false 1 := ⟨Try.isAgg17, Try.sizeOf17⟩
instance : IsNew Try.prog 17 [vlit (.pointer none)] := ⟨⟨_, Try.zeroValue17, fun _ => .cons rfl (.nil)⟩⟩
instance : IsVar Try.prog 18 true 1 := ⟨Try.isAgg18, Try.sizeOf18⟩
instance : IsNew Try.prog 18 [vlit (.pointer none)] := ⟨⟨_, Try.zeroValue18, fun _ => .cons rfl (.nil)⟩⟩
instance : IsStruct Try.prog 18 [(0, 1)] := ⟨⟨_, Try.underlying18, fun w => by simp [Try.sizeOf17]⟩⟩
instance : IsFld Try.prog 18 0 0 1 := ⟨⟨_, _, Try.underlying18, rfl, rfl, Try.sizeOf17, by decide⟩⟩
instance : IsVar Try.prog 19 true 1 := ⟨Try.isAgg19, Try.sizeOf19⟩
instance : IsNew Try.prog 19 [vlit (.pointer none)] := ⟨⟨_, Try.zeroValue19, fun _ => .cons rfl (.nil)⟩⟩
instance : IsStruct Try.prog 19 [(0, 1)] := ⟨⟨_, Try.underlying19, fun w => by simp [Try.sizeOf17]⟩⟩
instance : IsFld Try.prog 19 0 0 1 := ⟨⟨_, _, Try.underlying19, rfl, rfl, Try.sizeOf17, by decide⟩⟩
instance : IsVar Try.prog 21 false 1 := ⟨Try.isAgg21, Try.sizeOf21⟩
instance : IsNew Try.prog 21 [vlit (.int .i32 0)] := ⟨⟨_, Try.zeroValue21, fun _ => .cons rfl (.nil)⟩⟩
instance : IsVar Try.prog 22 false 1 := ⟨Try.isAgg22, Try.sizeOf22⟩
instance : IsNew Try.prog 22 [vlit (.slice none 0 0)] := ⟨⟨_, Try.zeroValue22, fun _ => .cons rfl (.nil)⟩⟩
instance : IsSl Try.prog 22 5 1 := ⟨Try.underlying22, Try.sizeOf5⟩
instance : IsSlM Try.prog 22 5 1 1 (.int .u8 0) := ⟨⟨Try.t5, Try.underlying22, by kernel_rfl, rfl, rfl, rfl, rfl, by decide⟩⟩
instance : IsVar Try.prog 23 false 1 := ⟨Try.isAgg23, Try.sizeOf23⟩
instance : IsNew Try.prog 23 [vlit (.nilFunc)] := ⟨⟨_, Try.zeroValue23, fun _ => .cons rfl (.nil)⟩⟩
instance : IsVar Try.prog 24 false 1 := ⟨Try.isAgg24, Try.sizeOf24⟩
instance : IsNew Try.prog 24 [vlit (.slice none 0 0)] := ⟨⟨_, Try.zeroValue24, fun _ => .cons rfl (.nil)⟩⟩
instance : IsSl Try.prog 24 35 1 := ⟨Try.underlying24, Try.sizeOf35⟩
instance : IsSlM Try.prog 24 35 1 24 (.slice none 0 0) := ⟨⟨Try.t35, Try.underlying24, by kernel_rfl, rfl, rfl, rfl, rfl, by decide⟩⟩
instance : IsVar Try.prog 25 true 2 := ⟨Try.isAgg25, Try.sizeOf25⟩
instance : IsNew Try.prog 25 [vlit (.int .i64 0), vlit (.slice none 0 0)] := ⟨⟨_, Try.zeroValue25, fun _ => .cons rfl (.cons rfl (.nil))⟩⟩
instance : IsStruct Try.prog 25 [(0, 1), (1, 1)] := ⟨⟨_, Try.underlying25, fun w => by simp [Try.sizeOf3, Try.sizeOf24]⟩⟩
instance : IsFld Try.prog 25 0 0 1 := ⟨⟨_, _, Try.underlying25, rfl, rfl, Try.sizeOf3, by decide⟩⟩
instance : IsFld Try.prog 25 1 1 1 := ⟨⟨_, _, Try.underlying25, rfl, rfl, Try.sizeOf24, by decide⟩⟩
instance : IsVar Try.prog 26 true 2 := ⟨Try.isAgg26, Try.sizeOf26⟩
instance : IsNew Try.prog 26 [vlit (.int .i64 0), vlit (.slice none 0 0)] := ⟨⟨_, Try.zeroValue26, fun _ => .cons rfl (.cons rfl (.nil))⟩⟩
instance : IsStruct Try.prog 26 [(0, 1), (1, 1)] := ⟨⟨_, Try.underlying26, fun w => by simp [Try.sizeOf3, Try.sizeOf24]⟩⟩
instance : IsFld Try.prog 26 0 0 1 := ⟨⟨_, _, Try.underlying26, rfl, rfl, Try.sizeOf3, by decide⟩⟩
instance : IsFld Try.prog 26 1 1 1 := ⟨⟨_, _, Try.underlying26, rfl, rfl, Try.sizeOf24, by decide⟩⟩
instance : IsVar Try.prog 28 false 1 := ⟨Try.isAgg28, Try.sizeOf28⟩
instance : IsNew Try.prog 28 [vlit (.nilFunc)] := ⟨⟨_, Try.zeroValue28, fun _ => .cons rfl (.nil)⟩⟩
instance : IsVar Try.prog 30 false 1 := ⟨Try.isAgg30, Try.sizeOf30⟩
instance : IsNew Try.prog 30 [vlit (.nilFunc)] := ⟨⟨_, Try.zeroValue30, fun _ => .cons rfl (.nil)⟩⟩
instance : IsVar Try.prog 31 false 1 := ⟨Try.isAgg31, Try.sizeOf31⟩
instance : IsNew Try.prog 31 [vlit (.nilFunc)] := ⟨⟨_, Try.zeroValue31, fun _ => .cons rfl (.nil)⟩⟩
instance : IsVar Try.prog 32 false 1 := ⟨Try.isAgg32, Try.sizeOf32⟩
instance : IsNew Try.prog 32 [vlit (.nilFunc)] := ⟨⟨_, Try.zeroValue32, fun _ => .cons rfl (.nil)⟩⟩
instance : IsVar Try.prog 34 false 1 := ⟨Try.isAgg34, Try.sizeOf34⟩
instance : IsNew Try.prog 34 [vlit (.nilFunc)] := ⟨⟨_, Try.zeroValue34, fun _ => .cons rfl (.nil)⟩⟩
instance : IsVar Try.prog 35 false 1 := ⟨Try.isAgg35, Try.sizeOf35⟩
instance : IsNew Try.prog 35 [vlit (.slice none 0 0)] := ⟨⟨_, Try.zeroValue35, fun _ => .cons rfl (.nil)⟩⟩
instance : IsSl Try.prog 35 3 1 := ⟨Try.underlying35, Try.sizeOf3⟩
instance : IsSlM Try.prog 35 3 1 8 (.int .i64 0) := ⟨⟨Try.t3, Try.underlying35, by kernel_rfl, rfl, rfl, rfl, rfl, by decide⟩⟩
instance : IsVar Try.prog 37 false 1 := ⟨Try.isAgg37, Try.sizeOf37⟩
instance : IsNew Try.prog 37 [vlit (.nilFunc)] := ⟨⟨_, Try.zeroValue37, fun _ => .cons rfl (.nil)⟩⟩
instance : IsVar Try.prog 38 false 1 := ⟨Try.isAgg38, Try.sizeOf38⟩
instance : IsNew Try.prog 38 [vlit (.nilFunc)] := ⟨⟨_, Try.zeroValue38, fun _ => .cons rfl (.nil)⟩⟩
instance : IsVar Try.prog 40 false 1 := ⟨Try.isAgg40, Try.sizeOf40⟩
instance : IsNew Try.prog 40 [vlit (.nilFunc)] := ⟨⟨_, Try.zeroValue40, fun _ => .cons rfl (.nil)⟩⟩
instance : IsVar Try.prog 41 false 1 := ⟨Try.isAgg41, Try.sizeOf41⟩
instance : IsNew Try.prog 41 [vlit (.nilFunc)] := ⟨⟨_, Try.zeroValue41, fun _ => .cons rfl (.nil)⟩⟩
instance : IsVar Try.prog 42 false 1 := ⟨Try.isAgg42, Try.sizeOf42⟩
instance : IsNew Try.prog 42 [vlit (.nilFunc)] := ⟨⟨_, Try.zeroValue42, fun _ => .cons rfl (.nil)⟩⟩
instance : IsVar Try.prog 43 false 1 := ⟨Try.isAgg43, Try.sizeOf43⟩
instance : IsNew Try.prog 43 [vlit (.nilFunc)] := ⟨⟨_, Try.zeroValue43, fun _ => .cons rfl (.nil)⟩⟩
instance : IsVar Try.prog 45 false 1 := ⟨Try.isAgg45, Try.sizeOf45⟩
instance : IsNew Try.prog 45 [vlit (.nilFunc)] := ⟨⟨_, Try.zeroValue45, fun _ => .cons rfl (.nil)⟩⟩
instance : IsVar Try.prog 46 false 1 := ⟨Try.isAgg46, Try.sizeOf46⟩
instance : IsNew Try.prog 46 [vlit (.nilFunc)] := ⟨⟨_, Try.zeroValue46, fun _ => .cons rfl (.nil)⟩⟩
instance : IsVar Try.prog 47 false 1 := ⟨Try.isAgg47, Try.sizeOf47⟩
instance : IsNew Try.prog 47 [vlit (.slice none 0 0)] := ⟨⟨_, Try.zeroValue47, fun _ => .cons rfl (.nil)⟩⟩
instance : IsSl Try.prog 47 26 2 := ⟨Try.underlying47, Try.sizeOf26⟩
instance : IsSlM Try.prog 47 26 2 32 (.agg #[.int .i64 0, .slice none 0 0]) := ⟨⟨Try.t26, Try.underlying47, by kernel_rfl, rfl, rfl, rfl, rfl, by decide⟩⟩
instance : IsVar Try.prog 48 false 1 := ⟨Try.isAgg48, Try.sizeOf48⟩
instance : IsNew Try.prog 48 [vlit (.slice none 0 0)] := ⟨⟨_, Try.zeroValue48, fun _ => .cons rfl (.nil)⟩⟩
instance : IsSl Try.prog 48 125 2 := ⟨Try.underlying48, Try.sizeOf125⟩
instance : IsSlM Try.prog 48 125 2 32 (.agg #[.int .i64 0, .slice none 0 0]) := ⟨⟨Try.t125, Try.underlying48, by kernel_rfl, rfl, rfl, rfl, rfl, by decide⟩⟩
instance : IsVar Try.prog 50 false 1 := ⟨Try.isAgg50, Try.sizeOf50⟩
instance : IsNew Try.prog 50 [vlit (.nilFunc)] := ⟨⟨_, Try.zeroValue50, fun _ => .cons rfl (.nil)⟩⟩
instance : IsVar Try.prog 51 false 1 := ⟨Try.isAgg51, Try.sizeOf51⟩
instance : IsNew Try.prog 51 [vlit (.nilFunc)] := ⟨⟨_, Try.zeroValue51, fun _ => .cons rfl (.nil)⟩⟩
instance : IsVar Try.prog 52 true 2 := ⟨Try.isAgg52, Try.sizeOf52⟩
instance : IsNew Try.prog 52 [vlit (.int .i64 0), vlit (.slice none 0 0)] := ⟨⟨_, Try.zeroValue52, fun _ => .cons rfl (.cons rfl (.nil))⟩⟩
instance : IsStruct Try.prog 52 [(0, 1), (1, 1)] := ⟨⟨_, Try.underlying52, fun w => by simp [Try.sizeOf3, Try.sizeOf35]⟩⟩
instance : IsFld Try.prog 52 0 0 1 := ⟨⟨_, _, Try.underlying52, rfl, rfl, Try.sizeOf3, by decide⟩⟩
instance : IsFld Try.prog 52 1 1 1 := ⟨⟨_, _, Try.underlying52, rfl, rfl, Try.sizeOf35, by decide⟩⟩
instance : IsVar Try.prog 53 true 2 := ⟨Try.isAgg53, Try.sizeOf53⟩
instance : IsNew Try.prog 53 [vlit (.int .i64 0), vlit (.slice none 0 0)] := ⟨⟨_, Try.zeroValue53, fun _ => .cons rfl (.cons rfl (.nil))⟩⟩
instance : IsStruct Try.prog 53 [(0, 1), (1, 1)] := ⟨⟨_, Try.underlying53, fun w => by simp [Try.sizeOf3, Try.sizeOf35]⟩⟩
instance : IsFld Try.prog 53 0 0 1 := ⟨⟨_, _, Try.underlying53, rfl, rfl, Try.sizeOf3, by decide⟩⟩
instance : IsFld Try.prog 53 1 1 1 := ⟨⟨_, _, Try.underlying53, rfl, rfl, Try.sizeOf35, by decide⟩⟩
instance : IsVar Try.prog 55 false 1 := ⟨Try.isAgg55, Try.sizeOf55⟩
instance : IsNew Try.prog 55 [vlit (.nilFunc)] := ⟨⟨_, Try.zeroValue55, fun _ => .cons rfl (.nil)⟩⟩
instance : IsVar Try.prog 56 false 1 := ⟨Try.isAgg56, Try.sizeOf56⟩
instance : IsNew Try.prog 56 [vlit (.nilFunc)] := ⟨⟨_, Try.zeroValue56, fun _ => .cons rfl (.nil)⟩⟩
instance : IsVar Try.prog 58 false 1 := ⟨Try.isAgg58, Try.sizeOf58⟩
instance : IsNew Try.prog 58 [vlit (.nilFunc)] := ⟨⟨_, Try.zeroValue58, fun _ => .cons rfl (.nil)⟩⟩
instance : IsVar Try.prog 59 false 1 := ⟨Try.isAgg59, Try.sizeOf59⟩
instance : IsNew Try.prog 59 [vlit (.nilFunc)] := ⟨⟨_, Try.zeroValue59, fun _ => .cons rfl (.nil)⟩⟩
instance : IsVar Try.prog 60 false 1 := ⟨Try.isAgg60, Try.sizeOf60⟩
instance : IsNew Try.prog 60 [vlit (.slice none 0 0)] := ⟨⟨_, Try.zeroValue60, fun _ => .cons rfl (.nil)⟩⟩
instance : IsSl Try.prog 60 177 2 := ⟨Try.underlying60, Try.sizeOf177⟩
instance : IsSlM Try.prog 60 177 2 32 (.agg #[.int .i64 0, .slice none 0 0]) := ⟨⟨Try.t177, Try.underlying60, by kernel_rfl, rfl, rfl, rfl, rfl, by decide⟩⟩
instance : IsVar Try.prog 61 true 2 := ⟨Try.isAgg61, Try.sizeOf61⟩
instance : IsNew Try.prog 61 [vlit (.int .i64 0), vlit (.slice none 0 0)] := ⟨⟨_, Try.zeroValue61, fun _ => .cons rfl (.cons rfl (.nil))⟩⟩
instance : IsStruct Try.prog 61 [(0, 1), (1, 1)] := ⟨⟨_, Try.underlying61, fun w => by simp [Try.sizeOf3, Try.sizeOf60]⟩⟩
instance : IsFld Try.prog 61 0 0 1 := ⟨⟨_, _, Try.underlying61, rfl, rfl, Try.sizeOf3, by decide⟩⟩
instance : IsFld Try.prog 61 1 1 1 := ⟨⟨_, _, Try.underlying61, rfl, rfl, Try.sizeOf60, by decide⟩⟩
instance : IsVar Try.prog 62 true 2 := ⟨Try.isAgg62, Try.sizeOf62⟩
instance : IsNew Try.prog 62 [vlit (.int .i64 0), vlit (.slice none 0 0)] := ⟨⟨_, Try.zeroValue62, fun _ => .cons rfl (.cons rfl (.nil))⟩⟩
instance : IsStruct Try.prog 62 [(0, 1), (1, 1)] := ⟨⟨_, Try.underlying62, fun w => by simp [Try.sizeOf3, Try.sizeOf60]⟩⟩
instance : IsFld Try.prog 62 0 0 1 := ⟨⟨_, _, Try.underlying62, rfl, rfl, Try.sizeOf3, by decide⟩⟩
instance : IsFld Try.prog 62 1 1 1 := ⟨⟨_, _, Try.underlying62, rfl, rfl, Try.sizeOf60, by decide⟩⟩
instance : IsVar Try.prog 63 false 1 := ⟨Try.isAgg63, Try.sizeOf63⟩
instance : IsNew Try.prog 63 [vlit (.nilFunc)] := ⟨⟨_, Try.zeroValue63, fun _ => .cons rfl (.nil)⟩⟩
instance : IsVar Try.prog 64 false 1 := ⟨Try.isAgg64, Try.sizeOf64⟩
instance : IsNew Try.prog 64 [vlit (.nilFunc)] := ⟨⟨_, Try.zeroValue64, fun _ => .cons rfl (.nil)⟩⟩
instance : IsVar Try.prog 66 false 1 := ⟨Try.isAgg66, Try.sizeOf66⟩
instance : IsNew Try.prog 66 [vlit (.nilFunc)] := ⟨⟨_, Try.zeroValue66, fun _ => .cons rfl (.nil)⟩⟩
instance : IsVar Try.prog 67 false 1 := ⟨Try.isAgg67, Try.sizeOf67⟩
instance : IsNew Try.prog 67 [vlit (.slice none 0 0)] := ⟨⟨_, Try.zeroValue67, fun _ => .cons rfl (.nil)⟩⟩
instance : IsSl Try.prog 67 53 2 := ⟨Try.underlying67, Try.sizeOf53⟩
instance : IsSlM Try.prog 67 53 2 32 (.agg #[.int .i64 0, .slice none 0 0]) := ⟨⟨Try.t53, Try.underlying67, by kernel_rfl, rfl, rfl, rfl, rfl, by decide⟩⟩
instance : IsVar Try.prog 68 true 2 := ⟨Try.isAgg68, Try.sizeOf68⟩
instance : IsNew Try.prog 68 [vlit (.int .i64 0), vlit (.slice none 0 0)] := ⟨⟨_, Try.zeroValue68, fun _ => .cons rfl (.cons rfl (.nil))⟩⟩
instance : IsStruct Try.prog 68 [(0, 1), (1, 1)] := ⟨⟨_, Try.underlying68, fun w => by simp [Try.sizeOf3, Try.sizeOf67]⟩⟩
instance : IsFld Try.prog 68 0 0 1 := ⟨⟨_, _, Try.underlying68, rfl, rfl, Try.sizeOf3, by decide⟩⟩
instance : IsFld Try.prog 68 1 1 1 := ⟨⟨_, _, Try.underlying68, rfl, rfl, Try.sizeOf67, by decide⟩⟩
instance : IsVar Try.prog 69 true 2 := ⟨Try.isAgg69, Try.sizeOf69⟩
instance : IsNew Try.prog 69 [vlit (.int .i64 0), vlit (.slice none 0 0)] := ⟨⟨_, Try.zeroValue69, fun _ => .cons rfl (.cons rfl (.nil))⟩⟩
instance : IsStruct Try.prog 69 [(0, 1), (1, 1)] := ⟨⟨_, Try.underlying69, fun w => by simp [Try.sizeOf3, Try.sizeOf67]⟩⟩
instance : IsFld Try.prog 69 0 0 1 := ⟨⟨_, _, Try.underlying69, rfl, rfl, Try.sizeOf3, by decide⟩⟩
instance : IsFld Try.prog 69 1 1 1 := ⟨⟨_, _, Try.underlying69, rfl, rfl, Try.sizeOf67, by decide⟩⟩
instance : IsVar Try.prog 70 false 1 := ⟨Try.isAgg70, Try.sizeOf70⟩
instance : IsNew Try.prog 70 [vlit (.nilFunc)] := ⟨⟨_, Try.zeroValue70, fun _ => .cons rfl (.nil)⟩⟩
instance : IsVar Try.prog 71 false 1 := ⟨Try.isAgg71, Try.sizeOf71⟩
instance : IsNew Try.prog 71 [vlit (.nilFunc)] := ⟨⟨_, Try.zeroValue71, fun _ => .cons rfl (.nil)⟩⟩
instance : IsVar Try.prog 72 false 1 := ⟨Try.isAgg72, Try.sizeOf72⟩
instance : IsNew Try.prog 72 [vlit (.nilFunc)] := ⟨⟨_, Try.zeroValue72, fun _ => .cons rfl (.nil)⟩⟩
instance : IsVar Try.prog 73 false 1 := ⟨Try.isAgg73, Try.sizeOf73⟩
instance : IsNew Try.prog 73 [vlit (.nilFunc)] := ⟨⟨_, Try.zeroValue73, fun _ => .cons rfl (.nil)⟩⟩
instance : IsVar Try.prog 74 false 1 := ⟨Try.isAgg74, Try.sizeOf74⟩
instance : IsNew Try.prog 74 [vlit (.nilFunc)] := ⟨⟨_, Try.zeroValue74, fun _ => .cons rfl (.nil)⟩⟩
instance : IsVar Try.prog 75 false 1 := ⟨Try.isAgg75, Try.sizeOf75⟩
instance : IsNew Try.prog 75 [vlit (.nilFunc)] := ⟨⟨_, Try.zeroValue75, fun _ => .cons rfl (.nil)⟩⟩
instance : IsVar Try.prog 76 false 1 := ⟨Try.isAgg76, Try.sizeOf76⟩
instance : IsNew Try.prog 76 [vlit (.nilFunc)] := ⟨⟨_, Try.zeroValue76, fun _ => .cons rfl (.nil)⟩⟩
instance : IsVar Try.prog 77 false 1 := ⟨Try.isAgg77, Try.sizeOf77⟩
instance : IsNew Try.prog 77 [vlit (.nilFunc)] := ⟨⟨_, Try.zeroValue77, fun _ => .cons rfl (.nil)⟩⟩
instance : IsVar Try.prog 78 false 1 := ⟨Try.isAgg78, Try.sizeOf78⟩
instance : IsNew Try.prog 78 [vlit (.nilFunc)] := ⟨⟨_, Try.zeroValue78, fun _ => .cons rfl (.nil)⟩⟩
instance : IsVar Try.prog 79 false 1 := ⟨Try.isAgg79, Try.sizeOf79⟩
instance : IsNew Try.prog 79 [vlit (.slice none 0 0)] := ⟨⟨_, Try.zeroValue79, fun _ => .cons rfl (.nil)⟩⟩
instance : IsSl Try.prog 79 190 2 := ⟨Try.underlying79, Try.sizeOf190⟩
instance : IsSlM Try.prog 79 190 2 48 (.agg #[.slice none 0 0, .slice none 0 0]) := ⟨⟨Try.t190, Try.underlying79, by kernel_rfl, rfl, rfl, rfl, rfl, by decide⟩⟩
instance : IsVar Try.prog 80 true 2 := ⟨Try.isAgg80, Try.sizeOf80⟩
instance : IsNew Try.prog 80 [vlit (.int .i64 0), vlit (.slice none 0 0)] := ⟨⟨_, Try.zeroValue80, fun _ => .cons rfl (.cons rfl (.nil))⟩⟩
instance : IsStruct Try.prog 80 [(0, 1), (1, 1)] := ⟨⟨_, Try.underlying80, fun w => by simp [Try.sizeOf3, Try.sizeOf79]⟩⟩
instance : IsFld Try.prog 80 0 0 1 := ⟨⟨_, _, Try.underlying80, rfl, rfl, Try.sizeOf3, by decide⟩⟩
instance : IsFld Try.prog 80 1 1 1 := ⟨⟨_, _, Try.underlying80, rfl, rfl, Try.sizeOf79, by decide⟩⟩
instance : IsVar Try.prog 81 true 2 := ⟨Try.isAgg81, Try.sizeOf81⟩
instance : IsNew Try.prog 81 [vlit (.int .i64 0), vlit (.slice none 0 0)] := ⟨⟨_, Try.zeroValue81, fun _ => .cons rfl (.cons rfl (.nil))⟩⟩
instance : IsStruct Try.prog 81 [(0, 1), (1, 1)] := ⟨⟨_, Try.underlying81, fun w => by simp [Try.sizeOf3, Try.sizeOf79]⟩⟩
instance : IsFld Try.prog 81 0 0 1 := ⟨⟨_, _, Try.underlying81, rfl, rfl, Try.sizeOf3, by decide⟩⟩
instance : IsFld Try.prog 81 1 1 1 := ⟨⟨_, _, Try.underlying81, rfl, rfl, Try.sizeOf79, by decide⟩⟩
instance : IsVar Try.prog 82 false 1 := ⟨Try.isAgg82, Try.sizeOf82⟩
instance : IsNew Try.prog 82 [vlit (.nilFunc)] := ⟨⟨_, Try.zeroValue82, fun _ => .cons rfl (.nil)⟩⟩
instance : IsVar Try.prog 84 false 1 := ⟨Try.isAgg84, Try.sizeOf84⟩
instance : IsNew Try.prog 84 [vlit (.nilFunc)] := ⟨⟨_, Try.zeroValue84, fun _ => .cons rfl (.nil)⟩⟩
instance : IsVar Try.prog 85 false 1 := ⟨Try.isAgg85, Try.sizeOf85⟩
instance : IsNew Try.prog 85 [vlit (.slice none 0 0)] := ⟨⟨_, Try.zeroValue85, fun _ => .cons rfl (.nil)⟩⟩
instance : IsSl Try.prog 85 197 2 := ⟨Try.underlying85, Try.sizeOf197⟩
instance : IsSlM Try.prog 85 197 2 48 (.agg #[.slice none 0 0, .slice none 0 0]) := ⟨⟨Try.t197, Try.underlying85, by kernel_rfl, rfl, rfl, rfl, rfl, by decide⟩⟩
instance : IsVar Try.prog 86 true 2 := ⟨Try.isAgg86, Try.sizeOf86⟩
instance : IsNew Try.prog 86 [vlit (.int .i64 0), vlit (.slice none 0 0)] := ⟨⟨_, Try.zeroValue86, fun _ => .cons rfl (.cons rfl (.nil))⟩⟩
instance : IsStruct Try.prog 86 [(0, 1), (1, 1)] := ⟨⟨_, Try.underlying86, fun w => by simp [Try.sizeOf3, Try.sizeOf85]⟩⟩
instance : IsFld Try.prog 86 0 0 1 := ⟨⟨_, _, Try.underlying86, rfl, rfl, Try.sizeOf3, by decide⟩⟩
instance : IsFld Try.prog 86 1 1 1 := ⟨⟨_, _, Try.underlying86, rfl, rfl, Try.sizeOf85, by decide⟩⟩
instance : IsVar Try.prog 87 true 2 := ⟨Try.isAgg87, Try.sizeOf87⟩
instance : IsNew Try.prog 87 [vlit (.int .i64 0), vlit (.slice none 0 0)] := ⟨⟨_, Try.zeroValue87, fun _ => .cons rfl (.cons rfl (.nil))⟩⟩
instance : IsStruct Try.prog 87 [(0, 1), (1, 1)] := ⟨⟨_, Try.underlying87, fun w => by simp [Try.sizeOf3, Try.sizeOf85]⟩⟩
instance : IsFld Try.prog 87 0 0 1 := ⟨⟨_, _, Try.underlying87, rfl, rfl, Try.sizeOf3, by decide⟩⟩
instance : IsFld Try.prog 87 1 1 1 := ⟨⟨_, _, Try.underlying87, rfl, rfl, Try.sizeOf85, by decide⟩⟩
instance : IsVar Try.prog 88 false 1 := ⟨Try.isAgg88, Try.sizeOf88⟩
instance : IsNew Try.prog 88 [vlit (.nilFunc)] := ⟨⟨_, Try.zeroValue88, fun _ => .cons rfl (.nil)⟩⟩
instance : IsVar Try.prog 89 false 1 := ⟨Try.isAgg89, Try.sizeOf89⟩
instance : IsNew Try.prog 89 [vlit (.nilFunc)] := ⟨⟨_, Try.zeroValue89, fun _ => .cons rfl (.nil)⟩⟩
instance : IsVar Try.prog 90 false 1 := ⟨Try.isAgg90, Try.sizeOf90⟩
instance : IsNew Try.prog 90 [vlit (.nilFunc)] := ⟨⟨_, Try.zeroValue90, fun _ => .cons rfl (.nil)⟩⟩
instance : IsVar Try.prog 91 false 1 := ⟨Try.isAgg91, Try.sizeOf91⟩
instance : IsNew Try.prog 91 [vlit (.nilFunc)] := ⟨⟨_, Try.zeroValue91, fun _ => .cons rfl (.nil)⟩⟩
instance : IsVar Try.prog 92 false 1 := ⟨Try.isAgg92, Try.sizeOf92⟩
instance : IsNew Try.prog 92 [vlit (.slice none 0 0)] := ⟨⟨_, Try.zeroValue92, fun _ => .cons rfl (.nil)⟩⟩
instance : IsSl Try.prog 92 166 2 := ⟨Try.underlying92, Try.sizeOf166⟩
instance : IsSlM Try.prog 92 166 2 32 (.agg #[.int .i64 0, .slice none 0 0]) := ⟨⟨Try.t166, Try.underlying92, by kernel_rfl, rfl, rfl, rfl, rfl, by decide⟩⟩
instance : IsVar Try.prog 94 false 1 := ⟨Try.isAgg94, Try.sizeOf94⟩
instance : IsNew Try.prog 94 [vlit (.nilFunc)] := ⟨⟨_, Try.zeroValue94, fun _ => .cons rfl (.nil)⟩⟩
instance : IsVar Try.prog 95 false 1 := ⟨Try.isAgg95, Try.sizeOf95⟩
instance : IsNew Try.prog 95 [vlit (.nilFunc)] := ⟨⟨_, Try.zeroValue95, fun _ => .cons rfl (.nil)⟩⟩
instance : IsVar Try.prog 96 false 1 := ⟨Try.isAgg96, Try.sizeOf96⟩
instance : IsNew Try.prog 96 [vlit (.nilFunc)] := ⟨⟨_, Try.zeroValue96, fun _ => .cons rfl (.nil)⟩⟩
instance : IsVar Try.prog 97 false 1 := ⟨Try.isAgg97, Try.sizeOf97⟩
instance : IsNew Try.prog 97 [vlit (.pointer none)] := ⟨⟨_, Try.zeroValue97, fun _ => .cons rfl (.nil)⟩⟩
instance : IsVar Try.prog 98 false 1 := ⟨Try.isAgg98, Try.sizeOf98⟩
instance : IsNew Try.prog 98 [vlit (.int .u64 0)] := ⟨⟨_, Try.zeroValue98, fun _ => .cons rfl (.nil)⟩⟩
instance : IsU64 Try.prog 98 := ⟨Try.underlying98⟩
instance : IsVar Try.prog 99 true 3 := ⟨Try.isAgg99, Try.sizeOf99⟩
instance : IsNew Try.prog 99 [vlit (.slice none 0 0), vlit (.int .i64 0), vlit (.int .u64 0)] := ⟨⟨_, Try.zeroValue99, fun _ => .cons rfl (.cons rfl (.cons rfl (.nil)))⟩⟩
instance : IsStruct Try.prog 99 [(0, 1), (1, 1), (2, 1)] := ⟨⟨_, Try.underlying99, fun w => by simp [Try.sizeOf3, Try.sizeOf22, Try.sizeOf98]⟩⟩
instance : IsFld Try.prog 99 0 0 1 := ⟨⟨_, _, Try.underlying99, rfl, rfl, Try.sizeOf22, by decide⟩⟩
instance : IsFld Try.prog 99 1 1 1 := ⟨⟨_, _, Try.underlying99, rfl, rfl, Try.sizeOf3, by decide⟩⟩
instance : IsFld Try.prog 99 2 2 1 := ⟨⟨_, _, Try.underlying99, rfl, rfl, Try.sizeOf98, by decide⟩⟩
instance : IsVar Try.prog 100 true 3 := ⟨Try.isAgg100, Try.sizeOf100⟩
instance : IsNew Try.prog 100 [vlit (.slice none 0 0), vlit (.int .i64 0), vlit (.int .u64 0)] := ⟨⟨_, Try.zeroValue100, fun _ => .cons rfl (.cons rfl (.cons rfl (.nil)))⟩⟩
instance : IsStruct Try.prog 100 [(0, 1), (1, 1), (2, 1)] := ⟨⟨_, Try.underlying100, fun w => by simp [Try.sizeOf3, Try.sizeOf22, Try.sizeOf98]⟩⟩
instance : IsFld Try.prog 100 0 0 1 := ⟨⟨_, _, Try.underlying100, rfl, rfl, Try.sizeOf22, by decide⟩⟩
instance : IsFld Try.prog 100 1 1 1 := ⟨⟨_, _, Try.underlying100, rfl, rfl, Try.sizeOf3, by decide⟩⟩
instance : IsFld Try.prog 100 2 2 1 := ⟨⟨_, _, Try.underlying100, rfl, rfl, Try.sizeOf98, by decide⟩⟩
instance : IsVar Try.prog 101 false 1 := ⟨Try.isAgg101, Try.sizeOf101⟩
instance : IsNew Try.prog 101 [vlit (.nilFunc)] := ⟨⟨_, Try.zeroValue101, fun _ => .cons rfl (.nil)⟩⟩
instance : IsVar Try.prog 102 false 1 := ⟨Try.isAgg102, Try.sizeOf102⟩
instance : IsNew Try.prog 102 [vlit (.nilFunc)] := ⟨⟨_, Try.zeroValue102, fun _ => .cons rfl (.nil)⟩⟩
instance : IsVar Try.prog 103 false 1 := ⟨Try.isAgg103, Try.sizeOf103⟩
instance : IsNew Try.prog 103 [vlit (.nilFunc)] := ⟨⟨_, Try.zeroValue103, fun _ => .cons rfl (.nil)⟩⟩
instance : IsVar Try.prog 104 false 1 := ⟨Try.isAgg104, Try.sizeOf104⟩
instance : IsNew Try.prog 104 [vlit (.nilFunc)] := ⟨⟨_, Try.zeroValue104, fun _ => .cons rfl (.nil)⟩⟩
instance : IsVar Try.prog 105 false 1 := ⟨Try.isAgg105, Try.sizeOf105⟩
instance : IsNew Try.prog 105 [vlit (.nilFunc)] := ⟨⟨_, Try.zeroValue105, fun _ => .cons rfl (.nil)⟩⟩
instance : IsVar Try.prog 106 false 1 := ⟨Try.isAgg106, Try.sizeOf106⟩
instance : IsNew Try.prog 106 [vlit (.nilFunc)] := ⟨⟨_, Try.zeroValue106, fun _ => .cons rfl (.nil)⟩⟩
instance : IsVar Try.prog 107 false 1 := ⟨Try.isAgg107, Try.sizeOf107⟩
instance : IsNew Try.prog 107 [vlit (.nilFunc)] := ⟨⟨_, Try.zeroValue107, fun _ => .cons rfl (.nil)⟩⟩
instance : IsVar Try.prog 108 false 1 := ⟨Try.isAgg108, Try.sizeOf108⟩
instance : IsNew Try.prog 108 [vlit (.nilFunc)] := ⟨⟨_, Try.zeroValue108, fun _ => .cons rfl (.nil)⟩⟩
instance : IsVar Try.prog 109 false 1 := ⟨Try.isAgg109, Try.sizeOf109⟩
instance : IsNew Try.prog 109 [vlit (.map none)] := ⟨⟨_, Try.zeroValue109, fun _ => .cons rfl (.nil)⟩⟩
instance : IsSet Try.prog 109 := ⟨⟨_, _, Try.underlying109, Try.underlying9, Try.zeroValue4⟩⟩
instance : IsVar Try.prog 110 false 1 := ⟨Try.isAgg110, Try.sizeOf110⟩
instance : IsNew Try.prog 110 [vlit (.nilFunc)] := ⟨⟨_, Try.zeroValue110, fun _ => .cons rfl (.nil)⟩⟩
instance : IsVar Try.prog 111 false 1 := ⟨Try.isAgg111, Try.sizeOf111⟩
instance : IsNew Try.prog 111 [vlit (.nilFunc)] := ⟨⟨_, Try.zeroValue111, fun _ => .cons rfl (.nil)⟩⟩
instance : IsVar Try.prog 112 false 1 := ⟨Try.isAgg112, Try.sizeOf112⟩
instance : IsNew Try.prog 112 [vlit (.nilFunc)] := ⟨⟨_, Try.zeroValue112, fun _ => .cons rfl (.nil)⟩⟩
instance : IsVar Try.prog 113 false 1 := ⟨Try.isAgg113, Try.sizeOf113⟩
instance : IsNew Try.prog 113 [vlit (.nilFunc)] := ⟨⟨_, Try.zeroValue113, fun _ => .cons rfl (.nil)⟩⟩
instance : IsVar Try.prog 114 false 1 := ⟨Try.isAgg114, Try.sizeOf114⟩
instance : IsNew Try.prog 114 [vlit (.nilFunc)] := ⟨⟨_, Try.zeroValue114, fun _ => .cons rfl (.nil)⟩⟩
instance : IsVar Try.prog 115 false 1 := ⟨Try.isAgg115, Try.sizeOf115⟩
instance : IsNew Try.prog 115 [vlit (.nilFunc)] := ⟨⟨_, Try.zeroValue115, fun _ => .cons rfl (.nil)⟩⟩
instance : IsVar Try.prog 116 false 1 := ⟨Try.isAgg116, Try.sizeOf116⟩
instance : IsNew Try.prog 116 [vlit (.nilFunc)] := ⟨⟨_, Try.zeroValue116, fun _ => .cons rfl (.nil)⟩⟩
instance : IsVar Try.prog 117 false 1 := ⟨Try.isAgg117, Try.sizeOf117⟩
instance : IsNew Try.prog 117 [vlit (.nilFunc)] := ⟨⟨_, Try.zeroValue117, fun _ => .cons rfl (.nil)⟩⟩
instance : IsVar Try.prog 118 false 1 := ⟨Try.isAgg118, Try.sizeOf118⟩
instance : IsNew Try.prog 118 [vlit (.nilFunc)] := ⟨⟨_, Try.zeroValue118, fun _ => .cons rfl (.nil)⟩⟩
instance : IsVar Try.prog 119 false 1 := ⟨Try.isAgg119, Try.sizeOf119⟩
instance : IsNew Try.prog 119 [vlit (.nilFunc)] := ⟨⟨_, Try.zeroValue119, fun _ => .cons rfl (.nil)⟩⟩
instance : IsVar Try.prog 120 false 1 := ⟨Try.isAgg120, Try.sizeOf120⟩
instance : IsNew Try.prog 120 [vlit (.nilFunc)] := ⟨⟨_, Try.zeroValue120, fun _ => .cons rfl (.nil)⟩⟩
instance : IsVar Try.prog 121 false 1 := ⟨Try.isAgg121, Try.sizeOf121⟩
instance : IsNew Try.prog 121 [vlit (.nilFunc)] := ⟨⟨_, Try.zeroValue121, fun _ => .cons rfl (.nil)⟩⟩
instance : IsVar Try.prog 122 false 1 := ⟨Try.isAgg122, Try.sizeOf122⟩
instance : IsNew Try.prog 122 [vlit (.nilFunc)] := ⟨⟨_, Try.zeroValue122, fun _ => .cons rfl (.nil)⟩⟩
instance : IsVar Try.prog 123 false 1 := ⟨Try.isAgg123, Try.sizeOf123⟩
instance : IsNew Try.prog 123 [vlit (.nilFunc)] := ⟨⟨_, Try.zeroValue123, fun _ => .cons rfl (.nil)⟩⟩
instance : IsVar Try.prog 124 true 2 := ⟨Try.isAgg124, Try.sizeOf124⟩
instance : IsNew Try.prog 124 [vlit (.int .i64 0), vlit (.slice none 0 0)] := ⟨⟨_, Try.zeroValue124, fun _ => .cons rfl (.cons rfl (.nil))⟩⟩
instance : IsStruct Try.prog 124 [(0, 1), (1, 1)] := ⟨⟨_, Try.underlying124, fun w => by simp [Try.sizeOf3, Try.sizeOf35]⟩⟩
instance : IsFld Try.prog 124 0 0 1 := ⟨⟨_, _, Try.underlying124, rfl, rfl, Try.sizeOf3, by decide⟩⟩
instance : IsFld Try.prog 124 1 1 1 := ⟨⟨_, _, Try.underlying124, rfl, rfl, Try.sizeOf35, by decide⟩⟩
instance : IsVar Try.prog 125 true 2 := ⟨Try.isAgg125, Try.sizeOf125⟩
instance : IsNew Try.prog 125 [vlit (.int .i64 0), vlit (.slice none 0 0)] := ⟨⟨_, Try.zeroValue125, fun _ => .cons rfl (.cons rfl (.nil))⟩⟩
instance : IsStruct Try.prog 125 [(0, 1), (1, 1)] := ⟨⟨_, Try.underlying125, fun w => by simp [Try.sizeOf3, Try.sizeOf35]⟩⟩
instance : IsFld Try.prog 125 0 0 1 := ⟨⟨_, _, Try.underlying125, rfl, rfl, Try.sizeOf3, by decide⟩⟩
instance : IsFld Try.prog 125 1 1 1 := ⟨⟨_, _, Try.underlying125, rfl, rfl, Try.sizeOf35, by decide⟩⟩
instance : IsVar Try.prog 126 false 1 := ⟨Try.isAgg126, Try.sizeOf126⟩
instance : IsNew Try.prog 126 [vlit (.nilFunc)] := ⟨⟨_, Try.zeroValue126, fun _ => .cons rfl (.nil)⟩⟩
instance : IsVar Try.prog 127 false 1 := ⟨Try.isAgg127, Try.sizeOf127⟩
instance : IsNew Try.prog 127 [vlit (.slice none 0 0)] := ⟨⟨_, Try.zeroValue127, fun _ => .cons rfl (.nil)⟩⟩
instance : IsSl Try.prog 127 109 1 := ⟨Try.underlying127, Try.sizeOf109⟩
instance : IsSlM Try.prog 127 109 1 8 (.map none) := ⟨⟨Try.t109, Try.underlying127, by kernel_rfl, rfl, rfl, rfl, rfl, by decide⟩⟩
instance : IsVar Try.prog 128 false 1 := ⟨Try.isAgg128, Try.sizeOf128⟩
instance : IsNew Try.prog 128 [vlit (.nilFunc)] := ⟨⟨_, Try.zeroValue128, fun _ => .cons rfl (.nil)⟩⟩
instance : IsVar Try.prog 129 false 1 := ⟨Try.isAgg129, Try.sizeOf129⟩
instance : IsNew Try.prog 129 [vlit (.nilFunc)] := ⟨⟨_, Try.zeroValue129, fun _ => .cons rfl (.nil)⟩⟩
instance : IsVar Try.prog 130 false 1 := ⟨Try.isAgg130, Try.sizeOf130⟩
instance : IsNew Try.prog 130 [vlit (.nilFunc)] := ⟨⟨_, Try.zeroValue130, fun _ => .cons rfl (.nil)⟩⟩
instance : IsVar Try.prog 131 false 1 := ⟨Try.isAgg131, Try.sizeOf131⟩
instance : IsNew Try.prog 131 [vlit (.nilFunc)] := ⟨⟨_, Try.zeroValue131, fun _ => .cons rfl (.nil)⟩⟩
instance : IsVar Try.prog 132 false 1 := ⟨Try.isAgg132, Try.sizeOf132⟩
instance : IsNew Try.prog 132 [vlit (.nilFunc)] := ⟨⟨_, Try.zeroValue132, fun _ => .cons rfl (.nil)⟩⟩
instance : IsVar Try.prog 134 false 1 := ⟨Try.isAgg134, Try.sizeOf134⟩
instance : IsNew Try.prog 134 [vlit (.nilFunc)] := ⟨⟨_, Try.zeroValue134, fun _ => .cons rfl (.nil)⟩⟩
instance : IsVar Try.prog 135 false 1 := ⟨Try.isAgg135, Try.sizeOf135⟩
instance : IsNew Try.prog 135 [vlit (.nilFunc)] := ⟨⟨_, Try.zeroValue135, fun _ => .cons rfl (.nil)⟩⟩
instance : IsVar Try.prog 136 false 1 := ⟨Try.isAgg136, Try.sizeOf136⟩
instance : IsNew Try.prog 136 [vlit (.nilFunc)] := ⟨⟨_, Try.zeroValue136, fun _ => .cons rfl (.nil)⟩⟩
instance : IsVar Try.prog 137 false 1 := ⟨Try.isAgg137, Try.sizeOf137⟩
instance : IsNew Try.prog 137 [vlit (.nilFunc)] := ⟨⟨_, Try.zeroValue137, fun _ => .cons rfl (.nil)⟩⟩
instance : IsVar Try.prog 139 false 1 := ⟨Try.isAgg139, Try.sizeOf139⟩
instance : IsNew Try.prog 139 [vlit (.nilFunc)] := ⟨⟨_, Try.zeroValue139, fun _ => .cons rfl (.nil)⟩⟩
instance : IsVar Try.prog 140 false 1 := ⟨Try.isAgg140, Try.sizeOf140⟩
instance : IsNew Try.prog 140 [vlit (.nilFunc)] := ⟨⟨_, Try.zeroValue140, fun _ => .cons rfl (.nil)⟩⟩
instance : IsVar Try.prog 141 false 1 := ⟨Try.isAgg141, Try.sizeOf141⟩
instance : IsNew Try.prog 141 [vlit (.nilFunc)] := ⟨⟨_, Try.zeroValue141, fun _ => .cons rfl (.nil)⟩⟩
instance : IsVar Try.prog 142 false 1 := ⟨Try.isAgg142, Try.sizeOf142⟩
instance : IsNew Try.prog 142 [vlit (.pointer none)] := ⟨⟨_, Try.zeroValue142, fun _ => .cons rfl (.nil)⟩⟩
instance : IsVar Try.prog 144 false 1 := ⟨Try.isAgg144, Try.sizeOf144⟩
instance : IsNew Try.prog 144 [vlit (.nilFunc)] := ⟨⟨_, Try.zeroValue144, fun _ => .cons rfl (.nil)⟩⟩
instance : IsVar Try.prog 145 false 1 := ⟨Try.isAgg145, Try.sizeOf145⟩
instance : IsNew Try.prog 145 [vlit (.map none)] := ⟨⟨_, Try.zeroValue145, fun _ => .cons rfl (.nil)⟩⟩
instance : IsMapI Try.prog 145 := ⟨⟨_, _, Try.underlying145, Try.underlying9, Try.zeroValue3⟩⟩
instance : IsVar Try.prog 146 true 5 := ⟨Try.isAgg146, Try.sizeOf146⟩
instance : IsNew Try.prog 146 [vlit (.int .i64 0), vlit (.slice none 0 0), vlit (.int .i64 0), vlit (.slice none 0 0), vlit (.map none)] := ⟨⟨_, Try.zeroValue146, fun _ => .cons rfl (.cons rfl (.cons rfl (.cons rfl (.cons rfl (.nil)))))⟩⟩
instance : IsStruct Try.prog 146 [(0, 2), (2, 1), (3, 1), (4, 1)] := ⟨⟨_, Try.underlying146, fun w => by simp [Try.sizeOf3, Try.sizeOf24, Try.sizeOf69, Try.sizeOf145]⟩⟩
instance : IsFld Try.prog 146 0 0 2 := ⟨⟨_, _, Try.underlying146, rfl, rfl, Try.sizeOf69, by decide⟩⟩
instance : IsFld Try.prog 146 1 2 1 := ⟨⟨_, _, Try.underlying146, rfl, rfl, Try.sizeOf3, by decide⟩⟩
instance : IsFld Try.prog 146 2 3 1 := ⟨⟨_, _, Try.underlying146, rfl, rfl, Try.sizeOf24, by decide⟩⟩
instance : IsFld Try.prog 146 3 4 1 := ⟨⟨_, _, Try.underlying146, rfl, rfl, Try.sizeOf145, by decide⟩⟩
instance : IsVar Try.prog 147 true 5 := ⟨Try.isAgg147, Try.sizeOf147⟩
instance : IsNew Try.prog 147 [vlit (.int .i64 0), vlit (.slice none 0 0), vlit (.int .i64 0), vlit (.slice none 0 0), vlit (.map none)] := ⟨⟨_, Try.zeroValue147, fun _ => .cons rfl (.cons rfl (.cons rfl (.cons rfl (.cons rfl (.nil)))))⟩⟩
instance : IsStruct Try.prog 147 [(0, 2), (2, 1), (3, 1), (4, 1)] := ⟨⟨_, Try.underlying147, fun w => by simp [Try.sizeOf3, Try.sizeOf24, Try.sizeOf69, Try.sizeOf145]⟩⟩
instance : IsFld Try.prog 147 0 0 2 := ⟨⟨_, _, Try.underlying147, rfl, rfl, Try.sizeOf69, by decide⟩⟩
instance : IsFld Try.prog 147 1 2 1 := ⟨⟨_, _, Try.underlying147, rfl, rfl, Try.sizeOf3, by decide⟩⟩
instance : IsFld Try.prog 147 2 3 1 := ⟨⟨_, _, Try.underlying147, rfl, rfl, Try.sizeOf24, by decide⟩⟩
instance : IsFld Try.prog 147 3 4 1 := ⟨⟨_, _, Try.underlying147, rfl, rfl, Try.sizeOf145, by decide⟩⟩
instance : IsVar Try.prog 148 false 1 := ⟨Try.isAgg148, Try.sizeOf148⟩
instance : IsNew Try.prog 148 [vlit (.nilFunc)] := ⟨⟨_, Try.zeroValue148, fun _ => .cons rfl (.nil)⟩⟩
instance : IsVar Try.prog 149 false 1 := ⟨Try.isAgg149, Try.sizeOf149⟩
instance : IsNew Try.prog 149 [vlit (.nilFunc)] := ⟨⟨_, Try.zeroValue149, fun _ => .cons rfl (.nil)⟩⟩
instance : IsVar Try.prog 150 false 1 := ⟨Try.isAgg150, Try.sizeOf150⟩
instance : IsNew Try.prog 150 [vlit (.nilFunc)] := ⟨⟨_, Try.zeroValue150, fun _ => .cons rfl (.nil)⟩⟩
instance : IsVar Try.prog 151 false 1 := ⟨Try.isAgg151, Try.sizeOf151⟩
instance : IsNew Try.prog 151 [vlit (.nilFunc)] := ⟨⟨_, Try.zeroValue151, fun _ => .cons rfl (.nil)⟩⟩
instance : IsVar Try.prog 152 true 5 := ⟨Try.isAgg152, Try.sizeOf152⟩
instance : IsNew Try.prog 152 [vlit (.slice none 0 0), vlit (.slice none 0 0), vlit (.int .i64 0), vlit (.int .i64 0), vlit (.bool false)] := ⟨⟨_, Try.zeroValue152, fun _ => .cons rfl (.cons rfl (.cons rfl (.cons rfl (.cons rfl (.nil)))))⟩⟩
instance : IsStruct Try.prog 152 [(0, 1), (1, 1), (2, 1), (3, 1), (4, 1)] := ⟨⟨_, Try.underlying152, fun w => by simp [Try.sizeOf3, Try.sizeOf4, Try.sizeOf24, Try.sizeOf92]⟩⟩
instance : IsFld Try.prog 152 0 0 1 := ⟨⟨_, _, Try.underlying152, rfl, rfl, Try.sizeOf24, by decide⟩⟩
instance : IsFld Try.prog 152 1 1 1 := ⟨⟨_, _, Try.underlying152, rfl, rfl, Try.sizeOf92, by decide⟩⟩
instance : IsFld Try.prog 152 2 2 1 := ⟨⟨_, _, Try.underlying152, rfl, rfl, Try.sizeOf3, by decide⟩⟩
instance : IsFld Try.prog 152 3 3 1 := ⟨⟨_, _, Try.underlying152, rfl, rfl, Try.sizeOf3, by decide⟩⟩
instance : IsFld Try.prog 152 4 4 1 := ⟨⟨_, _, Try.underlying152, rfl, rfl, Try.sizeOf4, by decide⟩⟩
instance : IsVar Try.prog 153 true 5 := ⟨Try.isAgg153, Try.sizeOf153⟩
instance : IsNew Try.prog 153 [vlit (.slice none 0 0), vlit (.slice none 0 0), vlit (.int .i64 0), vlit (.int .i64 0), vlit (.bool false)] := ⟨⟨_, Try.zeroValue153, fun _ => .cons rfl (.cons rfl (.cons rfl (.cons rfl (.cons rfl (.nil)))))⟩⟩
instance : IsStruct Try.prog 153 [(0, 1), (1, 1), (2, 1), (3, 1), (4, 1)] := ⟨⟨_, Try.underlying153, fun w => by simp [Try.sizeOf3, Try.sizeOf4, Try.sizeOf24, Try.sizeOf92]⟩⟩
instance : IsFld Try.prog 153 0 0 1 := ⟨⟨_, _, Try.underlying153, rfl, rfl, Try.sizeOf24, by decide⟩⟩
instance : IsFld Try.prog 153 1 1 1 := ⟨⟨_, _, Try.underlying153, rfl, rfl, Try.sizeOf92, by decide⟩⟩
instance : IsFld Try.prog 153 2 2 1 := ⟨⟨_, _, Try.underlying153, rfl, rfl, Try.sizeOf3, by decide⟩⟩
instance : IsFld Try.prog 153 3 3 1 := ⟨⟨_, _, Try.underlying153, rfl, rfl, Try.sizeOf3, by decide⟩⟩
instance : IsFld Try.prog 153 4 4 1 := ⟨⟨_, _, Try.underlying153, rfl, rfl, Try.sizeOf4, by decide⟩⟩
instance : IsVar Try.prog 154 false 1 := ⟨Try.isAgg154, Try.sizeOf154⟩
instance : IsNew Try.prog 154 [vlit (.nilFunc)] := ⟨⟨_, Try.zeroValue154, fun _ => .cons rfl (.nil)⟩⟩
instance : IsVar Try.prog 155 false 1 := ⟨Try.isAgg155, Try.sizeOf155⟩
instance : IsNew Try.prog 155 [vlit (.nilFunc)] := ⟨⟨_, Try.zeroValue155, fun _ => .cons rfl (.nil)⟩⟩
instance : IsVar Try.prog 156 false 1 := ⟨Try.isAgg156, Try.sizeOf156⟩
instance : IsNew Try.prog 156 [vlit (.pointer none)] := ⟨⟨_, Try.zeroValue156, fun _ => .cons rfl (.nil)⟩⟩
instance : IsVar Try.prog 157 false 1 := ⟨Try.isAgg157, Try.sizeOf157⟩
instance : IsNew Try.prog 157 [vlit (.nilFunc)] := ⟨⟨_, Try.zeroValue157, fun _ => .cons rfl (.nil)⟩⟩
instance : IsVar Try.prog 158 false 1 := ⟨Try.isAgg158, Try.sizeOf158⟩
instance : IsNew Try.prog 158 [vlit (.nilFunc)] := ⟨⟨_, Try.zeroValue158, fun _ => .cons rfl (.nil)⟩⟩
instance : IsVar Try.prog 159 true 8 := ⟨Try.isAgg159, Try.sizeOf159⟩
instance : IsNew Try.prog 159 [vlit (.int .i64 0), vlit (.slice none 0 0), vlit (.nilFunc), vlit (.slice none 0 0), vlit (.slice none 0 0), vlit (.map none), vlit (.int .i64 0), vlit (.int .i64 0)] := ⟨⟨_, Try.zeroValue159, fun _ => .cons rfl (.cons rfl (.cons rfl (.cons rfl (.cons rfl (.cons rfl (.cons rfl (.cons rfl (.nil))))))))⟩⟩
instance : IsStruct Try.prog 159 [(0, 2), (2, 1), (3, 1), (4, 1), (5, 1), (6, 1), (7, 1)] := ⟨⟨_, Try.underlying159, fun w => by simp [Try.sizeOf3, Try.sizeOf24, Try.sizeOf69, Try.sizeOf92, Try.sizeOf109, Try.sizeOf158]⟩⟩
instance : IsFld Try.prog 159 0 0 2 := ⟨⟨_, _, Try.underlying159, rfl, rfl, Try.sizeOf69, by decide⟩⟩
instance : IsFld Try.prog 159 1 2 1 := ⟨⟨_, _, Try.underlying159, rfl, rfl, Try.sizeOf158, by decide⟩⟩
instance : IsFld Try.prog 159 2 3 1 := ⟨⟨_, _, Try.underlying159, rfl, rfl, Try.sizeOf24, by decide⟩⟩
instance : IsFld Try.prog 159 3 4 1 := ⟨⟨_, _, Try.underlying159, rfl, rfl, Try.sizeOf92, by decide⟩⟩
instance : IsFld Try.prog 159 4 5 1 := ⟨⟨_, _, Try.underlying159, rfl, rfl, Try.sizeOf109, by decide⟩⟩
instance : IsFld Try.prog 159 5 6 1 := ⟨⟨_, _, Try.underlying159, rfl, rfl, Try.sizeOf3, by decide⟩⟩
instance : IsFld Try.prog 159 6 7 1 := ⟨⟨_, _, Try.underlying159, rfl, rfl, Try.sizeOf3, by decide⟩⟩
instance : IsVar Try.prog 160 true 8 := ⟨Try.isAgg160, Try.sizeOf160⟩
instance : IsNew Try.prog 160 [vlit (.int .i64 0), vlit (.slice none 0 0), vlit (.nilFunc), vlit (.slice none 0 0), vlit (.slice none 0 0), vlit (.map none), vlit (.int .i64 0), vlit (.int .i64 0)] := ⟨⟨_, Try.zeroValue160, fun _ => .cons rfl (.cons rfl (.cons rfl (.cons rfl (.cons rfl (.cons rfl (.cons rfl (.cons rfl (.nil))))))))⟩⟩
instance : IsStruct Try.prog 160 [(0, 2), (2, 1), (3, 1), (4, 1), (5, 1), (6, 1), (7, 1)] := ⟨⟨_, Try.underlying160, fun w => by simp [Try.sizeOf3, Try.sizeOf24, Try.sizeOf69, Try.sizeOf92, Try.sizeOf109, Try.sizeOf158]⟩⟩
instance : IsFld Try.prog 160 0 0 2 := ⟨⟨_, _, Try.underlying160, rfl, rfl, Try.sizeOf69, by decide⟩⟩
instance : IsFld Try.prog 160 1 2 1 := ⟨⟨_, _, Try.underlying160, rfl, rfl, Try.sizeOf158, by decide⟩⟩
instance : IsFld Try.prog 160 2 3 1 := ⟨⟨_, _, Try.underlying160, rfl, rfl, Try.sizeOf24, by decide⟩⟩
instance : IsFld Try.prog 160 3 4 1 := ⟨⟨_, _, Try.underlying160, rfl, rfl, Try.sizeOf92, by decide⟩⟩
instance : IsFld Try.prog 160 4 5 1 := ⟨⟨_, _, Try.underlying160, rfl, rfl, Try.sizeOf109, by decide⟩⟩
instance : IsFld Try.prog 160 5 6 1 := ⟨⟨_, _, Try.underlying160, rfl, rfl, Try.sizeOf3, by decide⟩⟩
instance : IsFld Try.prog 160 6 7 1 := ⟨⟨_, _, Try.underlying160, rfl, rfl, Try.sizeOf3, by decide⟩⟩
instance : IsVar Try.prog 161 false 1 := ⟨Try.isAgg161, Try.sizeOf161⟩
instance : IsNew Try.prog 161 [vlit (.nilFunc)] := ⟨⟨_, Try.zeroValue161, fun _ => .cons rfl (.nil)⟩⟩
instance : IsVar Try.prog 162 false 1 := ⟨Try.isAgg162, Try.sizeOf162⟩
instance : IsNew Try.prog 162 [vlit (.nilFunc)] := ⟨⟨_, Try.zeroValue162, fun _ => .cons rfl (.nil)⟩⟩
instance : IsVar Try.prog 163 false 1 := ⟨Try.isAgg163, Try.sizeOf163⟩
instance : IsNew Try.prog 163 [vlit (.nilFunc)] := ⟨⟨_, Try.zeroValue163, fun _ => .cons rfl (.nil)⟩⟩
instance : IsVar Try.prog 164 false 1 := ⟨Try.isAgg164, Try.sizeOf164⟩
instance : IsNew Try.prog 164 [vlit (.nilFunc)] := ⟨⟨_, Try.zeroValue164, fun _ => .cons rfl (.nil)⟩⟩
instance : IsVar Try.prog 165 true 2 := ⟨Try.isAgg165, Try.sizeOf165⟩
instance : IsNew Try.prog 165 [vlit (.int .i64 0), vlit (.slice none 0 0)] := ⟨⟨_, Try.zeroValue165, fun _ => .cons rfl (.cons rfl (.nil))⟩⟩
instance : IsStruct Try.prog 165 [(0, 1), (1, 1)] := ⟨⟨_, Try.underlying165, fun w => by simp [Try.sizeOf3, Try.sizeOf35]⟩⟩
instance : IsFld Try.prog 165 0 0 1 := ⟨⟨_, _, Try.underlying165, rfl, rfl, Try.sizeOf3, by decide⟩⟩
instance : IsFld Try.prog 165 1 1 1 := ⟨⟨_, _, Try.underlying165, rfl, rfl, Try.sizeOf35, by decide⟩⟩
instance : IsVar Try.prog 166 true 2 := ⟨Try.isAgg166, Try.sizeOf166⟩
instance : IsNew Try.prog 166 [vlit (.int .i64 0), vlit (.slice none 0 0)] := ⟨⟨_, Try.zeroValue166, fun _ => .cons rfl (.cons rfl (.nil))⟩⟩
instance : IsStruct Try.prog 166 [(0, 1), (1, 1)] := ⟨⟨_, Try.underlying166, fun w => by simp [Try.sizeOf3, Try.sizeOf35]⟩⟩
instance : IsFld Try.prog 166 0 0 1 := ⟨⟨_, _, Try.underlying166, rfl, rfl, Try.sizeOf3, by decide⟩⟩
instance : IsFld Try.prog 166 1 1 1 := ⟨⟨_, _, Try.underlying166, rfl, rfl, Try.sizeOf35, by decide⟩⟩
instance : IsVar Try.prog 167 false 1 := ⟨Try.isAgg167, Try.sizeOf167⟩
instance : IsNew Try.prog 167 [vlit (.nilFunc)] := ⟨⟨_, Try.zeroValue167, fun _ => .cons rfl (.nil)⟩⟩
instance : IsVar Try.prog 168 false 1 := ⟨Try.isAgg168, Try.sizeOf168⟩
instance : IsNew Try.prog 168 [vlit (.nilFunc)] := ⟨⟨_, Try.zeroValue168, fun _ => .cons rfl (.nil)⟩⟩
instance : IsVar Try.prog 169 false 1 := ⟨Try.isAgg169, Try.sizeOf169⟩
instance : IsNew Try.prog 169 [vlit (.nilFunc)] := ⟨⟨_, Try.zeroValue169, fun _ => .cons rfl (.nil)⟩⟩
instance : IsVar Try.prog 170 false 1 := ⟨Try.isAgg170, Try.sizeOf170⟩
instance : IsNew Try.prog 170 [vlit (.int .u64 0)] := ⟨⟨_, Try.zeroValue170, fun _ => .cons rfl (.nil)⟩⟩
instance : IsU64 Try.prog 170 := ⟨Try.underlying170⟩
instance : IsVar Try.prog 171 false 1 := ⟨Try.isAgg171, Try.sizeOf171⟩
instance : IsNew Try.prog 171 [vlit (.nilFunc)] := ⟨⟨_, Try.zeroValue171, fun _ => .cons rfl (.nil)⟩⟩
instance : IsVar Try.prog 172 false 1 := ⟨Try.isAgg172, Try.sizeOf172⟩
instance : IsNew Try.prog 172 [vlit (.nilFunc)] := ⟨⟨_, Try.zeroValue172, fun _ => .cons rfl (.nil)⟩⟩
instance : IsVar Try.prog 173 false 1 := ⟨Try.isAgg173, Try.sizeOf173⟩
instance : IsNew Try.prog 173 [vlit (.nilFunc)] := ⟨⟨_, Try.zeroValue173, fun _ => .cons rfl (.nil)⟩⟩
instance : IsVar Try.prog 174 false 1 := ⟨Try.isAgg174, Try.sizeOf174⟩
instance : IsNew Try.prog 174 [vlit (.nilFunc)] := ⟨⟨_, Try.zeroValue174, fun _ => .cons rfl (.nil)⟩⟩
instance : IsVar Try.prog 175 false 1 := ⟨Try.isAgg175, Try.sizeOf175⟩
instance : IsNew Try.prog 175 [vlit (.nilFunc)] := ⟨⟨_, Try.zeroValue175, fun _ => .cons rfl (.nil)⟩⟩
instance : IsVar Try.prog 176 false 1 := ⟨Try.isAgg176, Try.sizeOf176⟩
instance : IsNew Try.prog 176 [vlit (.nilFunc)] := ⟨⟨_, Try.zeroValue176, fun _ => .cons rfl (.nil)⟩⟩
instance : IsVar Try.prog 177 true 2 := ⟨Try.isAgg177, Try.sizeOf177⟩
instance : IsNew Try.prog 177 [vlit (.int .i64 0), vlit (.slice none 0 0)] := ⟨⟨_, Try.zeroValue177, fun _ => .cons rfl (.cons rfl (.nil))⟩⟩
instance : IsStruct Try.prog 177 [(0, 1), (1, 1)] := ⟨⟨_, Try.underlying177, fun w => by simp [Try.sizeOf3, Try.sizeOf35]⟩⟩
instance : IsFld Try.prog 177 0 0 1 := ⟨⟨_, _, Try.underlying177, rfl, rfl, Try.sizeOf3, by decide⟩⟩
instance : IsFld Try.prog 177 1 1 1 := ⟨⟨_, _, Try.underlying177, rfl, rfl, Try.sizeOf35, by decide⟩⟩
instance : IsVar Try.prog 178 false 1 := ⟨Try.isAgg178, Try.sizeOf178⟩
instance : IsNew Try.prog 178 [vlit (.nilFunc)] := ⟨⟨_, Try.zeroValue178, fun _ => .cons rfl (.nil)⟩⟩
instance : IsVar Try.prog 179 false 1 := ⟨Try.isAgg179, Try.sizeOf179⟩
instance : IsNew Try.prog 179 [vlit (.nilFunc)] := ⟨⟨_, Try.zeroValue179, fun _ => .cons rfl (.nil)⟩⟩
instance : IsVar Try.prog 180 false 1 := ⟨Try.isAgg180, Try.sizeOf180⟩
instance : IsNew Try.prog 180 [vlit (.slice none 0 0)] := ⟨⟨_, Try.zeroValue180, fun _ => .cons rfl (.nil)⟩⟩
instance : IsSl Try.prog 180 4 1 := ⟨Try.underlying180, Try.sizeOf4⟩
instance : IsSlM Try.prog 180 4 1 1 (.bool false) := ⟨⟨Try.t4, Try.underlying180, by kernel_rfl, rfl, rfl, rfl, rfl, by decide⟩⟩
instance : IsVar Try.prog 181 false 1 := ⟨Try.isAgg181, Try.sizeOf181⟩
instance : IsNew Try.prog 181 [vlit (.nilFunc)] := ⟨⟨_, Try.zeroValue181, fun _ => .cons rfl (.nil)⟩⟩
instance : IsVar Try.prog 182 false 1 := ⟨Try.isAgg182, Try.sizeOf182⟩
instance : IsNew Try.prog 182 [vlit (.nilFunc)] := ⟨⟨_, Try.zeroValue182, fun _ => .cons rfl (.nil)⟩⟩
instance : IsVar Try.prog 183 false 1 := ⟨Try.isAgg183, Try.sizeOf183⟩
instance : IsNew Try.prog 183 [vlit (.nilFunc)] := ⟨⟨_, Try.zeroValue183, fun _ => .cons rfl (.nil)⟩⟩
instance : IsVar Try.prog 184 false 1 := ⟨Try.isAgg184, Try.sizeOf184⟩
instance : IsNew Try.prog 184 [vlit (.nilFunc)] := ⟨⟨_, Try.zeroValue184, fun _ => .cons rfl (.nil)⟩⟩
instance : IsVar Try.prog 185 false 1 := ⟨Try.isAgg185, Try.sizeOf185⟩
instance : IsNew Try.prog 185 [vlit (.nilFunc)] := ⟨⟨_, Try.zeroValue185, fun _ => .cons rfl (.nil)⟩⟩
instance : IsVar Try.prog 186 false 1 := ⟨Try.isAgg186, Try.sizeOf186⟩
instance : IsNew Try.prog 186 [vlit (.nilFunc)] := ⟨⟨_, Try.zeroValue186, fun _ => .cons rfl (.nil)⟩⟩
instance : IsVar Try.prog 187 false 1 := ⟨Try.isAgg187, Try.sizeOf187⟩
instance : IsNew Try.prog 187 [vlit (.nilFunc)] := ⟨⟨_, Try.zeroValue187, fun _ => .cons rfl (.nil)⟩⟩
instance : IsVar Try.prog 188 false 1 := ⟨Try.isAgg188, Try.sizeOf188⟩
instance : IsNew Try.prog 188 [vlit (.nilFunc)] := ⟨⟨_, Try.zeroValue188, fun _ => .cons rfl (.nil)⟩⟩
instance : IsVar Try.prog 189 true 2 := ⟨Try.isAgg189, Try.sizeOf189⟩
instance : IsNew Try.prog 189 [vlit (.slice none 0 0), vlit (.slice none 0 0)] := ⟨⟨_, Try.zeroValue189, fun _ => .cons rfl (.cons rfl (.nil))⟩⟩
instance : IsStruct Try.prog 189 [(0, 1), (1, 1)] := ⟨⟨_, Try.underlying189, fun w => by simp [Try.sizeOf35]⟩⟩
instance : IsFld Try.prog 189 0 0 1 := ⟨⟨_, _, Try.underlying189, rfl, rfl, Try.sizeOf35, by decide⟩⟩
instance : IsFld Try.prog 189 1 1 1 := ⟨⟨_, _, Try.underlying189, rfl, rfl, Try.sizeOf35, by decide⟩⟩
instance : IsVar Try.prog 190 true 2 := ⟨Try.isAgg190, Try.sizeOf190⟩
instance : IsNew Try.prog 190 [vlit (.slice none 0 0), vlit (.slice none 0 0)] := ⟨⟨_, Try.zeroValue190, fun _ => .cons rfl (.cons rfl (.nil))⟩⟩
instance : IsStruct Try.prog 190 [(0, 1), (1, 1)] := ⟨⟨_, Try.underlying190, fun w => by simp [Try.sizeOf35]⟩⟩
instance : IsFld Try.prog 190 0 0 1 := ⟨⟨_, _, Try.underlying190, rfl, rfl, Try.sizeOf35, by decide⟩⟩
instance : IsFld Try.prog 190 1 1 1 := ⟨⟨_, _, Try.underlying190, rfl, rfl, Try.sizeOf35, by decide⟩⟩
instance : IsVar Try.prog 191 false 1 := ⟨Try.isAgg191, Try.sizeOf191⟩
instance : IsNew Try.prog 191 [vlit (.nilFunc)] := ⟨⟨_, Try.zeroValue191, fun _ => .cons rfl (.nil)⟩⟩
instance : IsVar Try.prog 192 false 1 := ⟨Try.isAgg192, Try.sizeOf192⟩
instance : IsNew Try.prog 192 [vlit (.nilFunc)] := ⟨⟨_, Try.zeroValue192, fun _ => .cons rfl (.nil)⟩⟩
instance : IsVar Try.prog 193 false 1 := ⟨Try.isAgg193, Try.sizeOf193⟩
instance : IsNew Try.prog 193 [vlit (.nilFunc)] := ⟨⟨_, Try.zeroValue193, fun _ => .cons rfl (.nil)⟩⟩
instance : IsVar Try.prog 194 false 1 := ⟨Try.isAgg194, Try.sizeOf194⟩
instance : IsNew Try.prog 194 [vlit (.nilFunc)] := ⟨⟨_, Try.zeroValue194, fun _ => .cons rfl (.nil)⟩⟩
instance : IsVar Try.prog 195 false 1 := ⟨Try.isAgg195, Try.sizeOf195⟩
instance : IsNew Try.prog 195 [vlit (.nilFunc)] := ⟨⟨_, Try.zeroValue195, fun _ => .cons rfl (.nil)⟩⟩
instance : IsVar Try.prog 196 false 1 := ⟨Try.isAgg196, Try.sizeOf196⟩
instance : IsNew Try.prog 196 [vlit (.nilFunc)] := ⟨⟨_, Try.zeroValue196, fun _ => .cons rfl (.nil)⟩⟩
instance : IsVar Try.prog 197 true 2 := ⟨Try.isAgg197, Try.sizeOf197⟩
instance : IsNew Try.prog 197 [vlit (.slice none 0 0), vlit (.slice none 0 0)] := ⟨⟨_, Try.zeroValue197, fun _ => .cons rfl (.cons rfl (.nil))⟩⟩
instance : IsStruct Try.prog 197 [(0, 1), (1, 1)] := ⟨⟨_, Try.underlying197, fun w => by simp [Try.sizeOf35]⟩⟩
instance : IsFld Try.prog 197 0 0 1 := ⟨⟨_, _, Try.underlying197, rfl, rfl, Try.sizeOf35, by decide⟩⟩
instance : IsFld Try.prog 197 1 1 1 := ⟨⟨_, _, Try.underlying197, rfl, rfl, Try.sizeOf35, by decide⟩⟩
instance : IsVar Try.prog 198 false 1 := ⟨Try.isAgg198, Try.sizeOf198⟩
instance : IsNew Try.prog 198 [vlit (.nilFunc)] := ⟨⟨_, Try.zeroValue198, fun _ => .cons rfl (.nil)⟩⟩
instance : IsVar Try.prog 199 false 1 := ⟨Try.isAgg199, Try.sizeOf199⟩
instance : IsNew Try.prog 199 [vlit (.nilFunc)] := ⟨⟨_, Try.zeroValue199, fun _ => .cons rfl (.nil)⟩⟩
instance : IsVar Try.prog 200 false 1 := ⟨Try.isAgg200, Try.sizeOf200⟩
instance : IsNew Try.prog 200 [vlit (.nilFunc)] := ⟨⟨_, Try.zeroValue200, fun _ => .cons rfl (.nil)⟩⟩
instance : IsVar Try.prog 201 false 1 := ⟨Try.isAgg201, Try.sizeOf201⟩
instance : IsNew Try.prog 201 [vlit (.nilFunc)] := ⟨⟨_, Try.zeroValue201, fun _ => .cons rfl (.nil)⟩⟩
instance : IsVar Try.prog 202 false 1 := ⟨Try.isAgg202, Try.sizeOf202⟩
instance : IsNew Try.prog 202 [vlit (.nilFunc)] := ⟨⟨_, Try.zeroValue202, fun _ => .cons rfl (.nil)⟩⟩
instance : IsVar Try.prog 203 false 1 := ⟨Try.isAgg203, Try.sizeOf203⟩
instance : IsNew Try.prog 203 [vlit (.nilFunc)] := ⟨⟨_, Try.zeroValue203, fun _ => .cons rfl (.nil)⟩⟩
instance : IsVar Try.prog 204 false 1 := ⟨Try.isAgg204, Try.sizeOf204⟩
instance : IsNew Try.prog 204 [vlit (.nilFunc)] := ⟨⟨_, Try.zeroValue204, fun _ => .cons rfl (.nil)⟩⟩
instance : IsVar Try.prog 205 false 1 := ⟨Try.isAgg205, Try.sizeOf205⟩
instance : IsNew Try.prog 205 [vlit (.nilFunc)] := ⟨⟨_, Try.zeroValue205, fun _ => .cons rfl (.nil)⟩⟩
instance : IsVar Try.prog 206 false 1 := ⟨Try.isAgg206, Try.sizeOf206⟩
instance : IsNew Try.prog 206 [vlit (.nilFunc)] := ⟨⟨_, Try.zeroValue206, fun _ => .cons rfl (.nil)⟩⟩
instance : IsVar Try.prog 207 false 1 := ⟨Try.isAgg207, Try.sizeOf207⟩
instance : IsNew Try.prog 207 [vlit (.nilFunc)] := ⟨⟨_, Try.zeroValue207, fun _ => .cons rfl (.nil)⟩⟩
instance : IsVar Try.prog 208 false 1 := ⟨Try.isAgg208, Try.sizeOf208⟩
instance : IsNew Try.prog 208 [vlit (.nilFunc)] := ⟨⟨_, Try.zeroValue208, fun _ => .cons rfl (.nil)⟩⟩
instance : IsVar Try.prog 209 false 1 := ⟨Try.isAgg209, Try.sizeOf209⟩
instance : IsNew Try.prog 209 [vlit (.nilFunc)] := ⟨⟨_, Try.zeroValue209, fun _ => .cons rfl (.nil)⟩⟩
instance : IsVar Try.prog 210 false 1 := ⟨Try.isAgg210, Try.sizeOf210⟩
instance : IsNew Try.prog 210 [vlit (.nilFunc)] := ⟨⟨_, Try.zeroValue210, fun _ => .cons rfl (.nil)⟩⟩
instance : IsVar Try.prog 211 false 1 := ⟨Try.isAgg211, Try.sizeOf211⟩
instance : IsNew Try.prog 211 [vlit (.nilFunc)] := ⟨⟨_, Try.zeroValue211, fun _ => .cons rfl (.nil)⟩⟩
instance : IsVar Try.prog 213 false 1 := ⟨Try.isAgg213, Try.sizeOf213⟩
instance : IsNew Try.prog 213 [vlit (.int .u64 0)] := ⟨⟨_, Try.zeroValue213, fun _ => .cons rfl (.nil)⟩⟩
instance : IsU64 Try.prog 213 := ⟨Try.underlying213⟩
instance : IsVar Try.prog 214 true 3 := ⟨Try.isAgg214, Try.sizeOf214⟩
instance : IsNew Try.prog 214 [vlit (.pointer none), vlit (.pointer none), vlit (.int .u64 0)] := ⟨⟨_, Try.zeroValue214, fun _ => .cons rfl (.cons rfl (.cons rfl (.nil)))⟩⟩
instance : IsStruct Try.prog 214 [(0, 1), (1, 1), (2, 1)] := ⟨⟨_, Try.underlying214, fun w => by simp [Try.sizeOf17, Try.sizeOf212, Try.sizeOf213]⟩⟩
instance : IsFld Try.prog 214 0 0 1 := ⟨⟨_, _, Try.underlying214, rfl, rfl, Try.sizeOf17, by decide⟩⟩
instance : IsFld Try.prog 214 1 1 1 := ⟨⟨_, _, Try.underlying214, rfl, rfl, Try.sizeOf212, by decide⟩⟩
instance : IsFld Try.prog 214 2 2 1 := ⟨⟨_, _, Try.underlying214, rfl, rfl, Try.sizeOf213, by decide⟩⟩
instance : IsVar Try.prog 215 true 3 := ⟨Try.isAgg215, Try.sizeOf215⟩
instance : IsNew Try.prog 215 [vlit (.pointer none), vlit (.pointer none), vlit (.int .u64 0)] := ⟨⟨_, Try.zeroValue215, fun _ => .cons rfl (.cons rfl (.cons rfl (.nil)))⟩⟩
instance : IsStruct Try.prog 215 [(0, 1), (1, 1), (2, 1)] := ⟨⟨_, Try.underlying215, fun w => by simp [Try.sizeOf17, Try.sizeOf212, Try.sizeOf213]⟩⟩
instance : IsFld Try.prog 215 0 0 1 := ⟨⟨_, _, Try.underlying215, rfl, rfl, Try.sizeOf17, by decide⟩⟩
instance : IsFld Try.prog 215 1 1 1 := ⟨⟨_, _, Try.underlying215, rfl, rfl, Try.sizeOf212, by decide⟩⟩
instance : IsFld Try.prog 215 2 2 1 := ⟨⟨_, _, Try.underlying215, rfl, rfl, Try.sizeOf213, by decide⟩⟩
instance : IsVar Try.prog 216 false 1 := ⟨Try.isAgg216, Try.sizeOf216⟩
instance : IsNew Try.prog 216 [vlit (.nilFunc)] := ⟨⟨_, Try.zeroValue216, fun _ => .cons rfl (.nil)⟩⟩
instance : IsVar Try.prog 217 false 1 := ⟨Try.isAgg217, Try.sizeOf217⟩
instance : IsNew Try.prog 217 [vlit (.nilFunc)] := ⟨⟨_, Try.zeroValue217, fun _ => .cons rfl (.nil)⟩⟩
instance : IsVar Try.prog 218 false 1 := ⟨Try.isAgg218, Try.sizeOf218⟩
instance : IsNew Try.prog 218 [vlit (.nilFunc)] := ⟨⟨_, Try.zeroValue218, fun _ => .cons rfl (.nil)⟩⟩
instance : IsVar Try.prog 219 false 1 := ⟨Try.isAgg219, Try.sizeOf219⟩
instance : IsNew Try.prog 219 [vlit (.nilFunc)] := ⟨⟨_, Try.zeroValue219, fun _ => .cons rfl (.nil)⟩⟩
instance : IsVar Try.prog 220 true 2 := ⟨Try.isAgg220, Try.sizeOf220⟩
instance : IsNew Try.prog 220 [vlit (.nilFunc), vlit (.nilFunc)] := ⟨⟨_, Try.zeroValue220, fun _ => .cons rfl (.cons rfl (.nil))⟩⟩
instance : IsStruct Try.prog 220 [(0, 1), (1, 1)] := ⟨⟨_, Try.underlying220, fun w => by simp [Try.sizeOf209, Try.sizeOf217]⟩⟩
instance : IsFld Try.prog 220 0 0 1 := ⟨⟨_, _, Try.underlying220, rfl, rfl, Try.sizeOf209, by decide⟩⟩
instance : IsFld Try.prog 220 1 1 1 := ⟨⟨_, _, Try.underlying220, rfl, rfl, Try.sizeOf217, by decide⟩⟩
instance : IsVar Try.prog 221 true 2 := ⟨Try.isAgg221, Try.sizeOf221⟩
instance : IsNew Try.prog 221 [vlit (.nilFunc), vlit (.nilFunc)] := ⟨⟨_, Try.zeroValue221, fun _ => .cons rfl (.cons rfl (.nil))⟩⟩
instance : IsStruct Try.prog 221 [(0, 1), (1, 1)] := ⟨⟨_, Try.underlying221, fun w => by simp [Try.sizeOf209, Try.sizeOf217]⟩⟩
instance : IsFld Try.prog 221 0 0 1 := ⟨⟨_, _, Try.underlying221, rfl, rfl, Try.sizeOf209, by decide⟩⟩
instance : IsFld Try.prog 221 1 1 1 := ⟨⟨_, _, Try.underlying221, rfl, rfl, Try.sizeOf217, by decide⟩⟩
instance : IsVar Try.prog 222 true 1 := ⟨Try.isAgg222, Try.sizeOf222⟩
instance : IsNew Try.prog 222 [vlit (.pointer none)] := ⟨⟨_, Try.zeroValue222, fun _ => .cons rfl (.nil)⟩⟩
instance : IsStruct Try.prog 222 [(0, 1)] := ⟨⟨_, Try.underlying222, fun w => by simp [Try.sizeOf17]⟩⟩
instance : IsFld Try.prog 222 0 0 1 := ⟨⟨_, _, Try.underlying222, rfl, rfl, Try.sizeOf17, by decide⟩⟩
instance : IsVar Try.prog 223 true 1 := ⟨Try.isAgg223, Try.sizeOf223⟩
instance : IsNew Try.prog 223 [vlit (.pointer none)] := ⟨⟨_, Try.zeroValue223, fun _ => .cons rfl (.nil)⟩⟩
instance : IsStruct Try.prog 223 [(0, 1)] := ⟨⟨_, Try.underlying223, fun w => by simp [Try.sizeOf17]⟩⟩
instance : IsFld Try.prog 223 0 0 1 := ⟨⟨_, _, Try.underlying223, rfl, rfl, Try.sizeOf17, by decide⟩⟩
instance : IsVar Try.prog 224 false 1 := ⟨Try.isAgg224, Try.sizeOf224⟩
instance : IsNew Try.prog 224 [vlit (.pointer none)] := ⟨⟨_, Try.zeroValue224, fun _ => .cons rfl (.nil)⟩⟩
instance : IsVar Try.prog 225 false 1 := ⟨Try.isAgg225, Try.sizeOf225⟩
instance : IsNew Try.prog 225 [vlit (.nilFunc)] := ⟨⟨_, Try.zeroValue225, fun _ => .cons rfl (.nil)⟩⟩
instance : IsVar Try.prog 226 false 1 := ⟨Try.isAgg226, Try.sizeOf226⟩
instance : IsNew Try.prog 226 [vlit (.nilFunc)] := ⟨⟨_, Try.zeroValue226, fun _ => .cons rfl (.nil)⟩⟩
instance : IsVar Try.prog 227 false 1 := ⟨Try.isAgg227, Try.sizeOf227⟩
instance : IsNew Try.prog 227 [vlit (.nilFunc)] := ⟨⟨_, Try.zeroValue227, fun _ => .cons rfl (.nil)⟩⟩
instance : IsVar Try.prog 228 true 4 := ⟨Try.isAgg228, Try.sizeOf228⟩
instance : IsNew Try.prog 228 [vlit (.pointer none), vlit (.pointer none), vlit (.pointer none), vlit (.string .empty)] := ⟨⟨_, Try.zeroValue228, fun _ => .cons rfl (.cons rfl (.cons rfl (.cons rfl (.nil))))⟩⟩
instance : IsStruct Try.prog 228 [(0, 1), (1, 1), (2, 1), (3, 1)] := ⟨⟨_, Try.underlying228, fun w => by simp [Try.sizeOf9, Try.sizeOf17]⟩⟩
instance : IsFld Try.prog 228 0 0 1 := ⟨⟨_, _, Try.underlying228, rfl, rfl, Try.sizeOf17, by decide⟩⟩
instance : IsFld Try.prog 228 1 1 1 := ⟨⟨_, _, Try.underlying228, rfl, rfl, Try.sizeOf17, by decide⟩⟩
instance : IsFld Try.prog 228 2 2 1 := ⟨⟨_, _, Try.underlying228, rfl, rfl, Try.sizeOf17, by decide⟩⟩
instance : IsFld Try.prog 228 3 3 1 := ⟨⟨_, _, Try.underlying228, rfl, rfl, Try.sizeOf9, by decide⟩⟩
instance : IsVar Try.prog 229 true 4 := ⟨Try.isAgg229, Try.sizeOf229⟩
instance : IsNew Try.prog 229 [vlit (.pointer none), vlit (.pointer none), vlit (.pointer none), vlit (.string .empty)] := ⟨⟨_, Try.zeroValue229, fun _ => .cons rfl (.cons rfl (.cons rfl (.cons rfl (.nil))))⟩⟩
instance : IsStruct Try.prog 229 [(0, 1), (1, 1), (2, 1), (3, 1)] := ⟨⟨_, Try.underlying229, fun w => by simp [Try.sizeOf9, Try.sizeOf17]⟩⟩
instance : IsFld Try.prog 229 0 0 1 := ⟨⟨_, _, Try.underlying229, rfl, rfl, Try.sizeOf17, by decide⟩⟩
instance : IsFld Try.prog 229 1 1 1 := ⟨⟨_, _, Try.underlying229, rfl, rfl, Try.sizeOf17, by decide⟩⟩
instance : IsFld Try.prog 229 2 2 1 := ⟨⟨_, _, Try.underlying229, rfl, rfl, Try.sizeOf17, by decide⟩⟩
instance : IsFld Try.prog 229 3 3 1 := ⟨⟨_, _, Try.underlying229, rfl, rfl, Try.sizeOf9, by decide⟩⟩
instance : IsVar Try.prog 230 true 0 := ⟨Try.isAgg230, Try.sizeOf230⟩
instance : IsNew Try.prog 230 [] := ⟨⟨_, Try.zeroValue230, fun _ => .nil⟩⟩
instance : IsVar Try.prog 231 true 0 := ⟨Try.isAgg231, Try.sizeOf231⟩
instance : IsNew Try.prog 231 [] := ⟨⟨_, Try.zeroValue231, fun _ => .nil⟩⟩
instance : IsVar Try.prog 232 true 0 := ⟨Try.isAgg232, Try.sizeOf232⟩
instance : IsNew Try.prog 232 [] := ⟨⟨_, Try.zeroValue232, fun _ => .nil⟩⟩
instance : IsVar Try.prog 233 false 1 := ⟨Try.isAgg233, Try.sizeOf233⟩
instance : IsNew Try.prog 233 [vlit (.int .u32 0)] := ⟨⟨_, Try.zeroValue233, fun _ => .cons rfl (.nil)⟩⟩
instance : IsVar Try.prog 234 false 1 := ⟨Try.isAgg234, Try.sizeOf234⟩
instance : IsNew Try.prog 234 [vlit (.int .u8 0)] := ⟨⟨_, Try.zeroValue234, fun _ => .cons rfl (.nil)⟩⟩
instance : IsU8 Try.prog 234 := ⟨Try.underlying234⟩
instance : IsVar Try.prog 235 false 1 := ⟨Try.isAgg235, Try.sizeOf235⟩
instance : IsNew Try.prog 235 [vlit (.int .u8 0)] := ⟨⟨_, Try.zeroValue235, fun _ => .cons rfl (.nil)⟩⟩
instance : IsU8 Try.prog 235 := ⟨Try.underlying235⟩
instance : IsVar Try.prog 236 false 1 := ⟨Try.isAgg236, Try.sizeOf236⟩
instance : IsNew Try.prog 236 [vlit (.nilFunc)] := ⟨⟨_, Try.zeroValue236, fun _ => .cons rfl (.nil)⟩⟩
instance : IsVar Try.prog 237 false 1 := ⟨Try.isAgg237, Try.sizeOf237⟩
instance : IsNew Try.prog 237 [vlit (.pointer none)] := ⟨⟨_, Try.zeroValue237, fun _ => .cons rfl (.nil)⟩⟩
instance : IsVar Try.prog 238 false 1 := ⟨Try.isAgg238, Try.sizeOf238⟩
instance : IsNew Try.prog 238 [vlit (.int .i32 0)] := ⟨⟨_, Try.zeroValue238, fun _ => .cons rfl (.nil)⟩⟩
instance : IsVar Try.prog 239 false 1 := ⟨Try.isAgg239, Try.sizeOf239⟩
instance : IsNew Try.prog 239 [vlit (.int .i32 0)] := ⟨⟨_, Try.zeroValue239, fun _ => .cons rfl (.nil)⟩⟩
instance : IsVar Try.prog 240 true 11 := ⟨Try.isAgg240, Try.sizeOf240⟩
instance : IsNew Try.prog 240 [vlit (.int .u64 0), vlit (.int .u64 0), vlit (.int .u32 0), vlit (.int .u8 0), vlit (.int .u8 0), vlit (.int .u8 0), vlit (.int .u8 0), vlit (.nilFunc), vlit (.pointer none), vlit (.int .i32 0), vlit (.int .i32 0)] := ⟨⟨_, Try.zeroValue240, fun _ => .cons rfl (.cons rfl (.cons rfl (.cons rfl (.cons rfl (.cons rfl (.cons rfl (.cons rfl (.cons rfl (.cons rfl (.cons rfl (.nil)))))))))))⟩⟩
instance : IsStruct Try.prog 240 [(0, 1), (1, 1), (2, 1), (3, 1), (4, 1), (5, 1), (6, 1), (7, 1), (8, 1), (9, 1), (10, 1)] := ⟨⟨_, Try.underlying240, fun w => by simp [Try.sizeOf5, Try.sizeOf12, Try.sizeOf233, Try.sizeOf234, Try.sizeOf235, Try.sizeOf236, Try.sizeOf237, Try.sizeOf238, Try.sizeOf239]⟩⟩
instance : IsFld Try.prog 240 0 0 1 := ⟨⟨_, _, Try.underlying240, rfl, rfl, Try.sizeOf12, by decide⟩⟩
instance : IsFld Try.prog 240 1 1 1 := ⟨⟨_, _, Try.underlying240, rfl, rfl, Try.sizeOf12, by decide⟩⟩
instance : IsFld Try.prog 240 2 2 1 := ⟨⟨_, _, Try.underlying240, rfl, rfl, Try.sizeOf233, by decide⟩⟩
instance : IsFld Try.prog 240 3 3 1 := ⟨⟨_, _, Try.underlying240, rfl, rfl, Try.sizeOf234, by decide⟩⟩
instance : IsFld Try.prog 240 4 4 1 := ⟨⟨_, _, Try.underlying240, rfl, rfl, Try.sizeOf5, by decide⟩⟩
instance : IsFld Try.prog 240 5 5 1 := ⟨⟨_, _, Try.underlying240, rfl, rfl, Try.sizeOf5, by decide⟩⟩
instance : IsFld Try.prog 240 6 6 1 := ⟨⟨_, _, Try.underlying240, rfl, rfl, Try.sizeOf235, by decide⟩⟩
instance : IsFld Try.prog 240 7 7 1 := ⟨⟨_, _, Try.underlying240, rfl, rfl, Try.sizeOf236, by decide⟩⟩
instance : IsFld Try.prog 240 8 8 1 := ⟨⟨_, _, Try.underlying240, rfl, rfl, Try.sizeOf237, by decide⟩⟩
instance : IsFld Try.prog 240 9 9 1 := ⟨⟨_, _, Try.underlying240, rfl, rfl, Try.sizeOf238, by decide⟩⟩
instance : IsFld Try.prog 240 10 10 1 := ⟨⟨_, _, Try.underlying240, rfl, rfl, Try.sizeOf239, by decide⟩⟩
instance : IsVar Try.prog 241 true 11 := ⟨Try.isAgg241, Try.sizeOf241⟩
instance : IsNew Try.prog 241 [vlit (.int .u64 0), vlit (.int .u64 0), vlit (.int .u32 0), vlit (.int .u8 0), vlit (.int .u8 0), vlit (.int .u8 0), vlit (.int .u8 0), vlit (.nilFunc), vlit (.pointer none), vlit (.int .i32 0), vlit (.int .i32 0)] := ⟨⟨_, Try.zeroValue241, fun _ => .cons rfl (.cons rfl (.cons rfl (.cons rfl (.cons rfl (.cons rfl (.cons rfl (.cons rfl (.cons rfl (.cons rfl (.cons rfl (.nil)))))))))))⟩⟩
instance : IsStruct Try.prog 241 [(0, 1), (1, 1), (2, 1), (3, 1), (4, 1), (5, 1), (6, 1), (7, 1), (8, 1), (9, 1), (10, 1)] := ⟨⟨_, Try.underlying241, fun w => by simp [Try.sizeOf5, Try.sizeOf12, Try.sizeOf233, Try.sizeOf234, Try.sizeOf235, Try.sizeOf236, Try.sizeOf237, Try.sizeOf238, Try.sizeOf239]⟩⟩
instance : IsFld Try.prog 241 0 0 1 := ⟨⟨_, _, Try.underlying241, rfl, rfl, Try.sizeOf12, by decide⟩⟩
instance : IsFld Try.prog 241 1 1 1 := ⟨⟨_, _, Try.underlying241, rfl, rfl, Try.sizeOf12, by decide⟩⟩
instance : IsFld Try.prog 241 2 2 1 := ⟨⟨_, _, Try.underlying241, rfl, rfl, Try.sizeOf233, by decide⟩⟩
instance : IsFld Try.prog 241 3 3 1 := ⟨⟨_, _, Try.underlying241, rfl, rfl, Try.sizeOf234, by decide⟩⟩
instance : IsFld Try.prog 241 4 4 1 := ⟨⟨_, _, Try.underlying241, rfl, rfl, Try.sizeOf5, by decide⟩⟩
instance : IsFld Try.prog 241 5 5 1 := ⟨⟨_, _, Try.underlying241, rfl, rfl, Try.sizeOf5, by decide⟩⟩
instance : IsFld Try.prog 241 6 6 1 := ⟨⟨_, _, Try.underlying241, rfl, rfl, Try.sizeOf235, by decide⟩⟩
instance : IsFld Try.prog 241 7 7 1 := ⟨⟨_, _, Try.underlying241, rfl, rfl, Try.sizeOf236, by decide⟩⟩
instance : IsFld Try.prog 241 8 8 1 := ⟨⟨_, _, Try.underlying241, rfl, rfl, Try.sizeOf237, by decide⟩⟩
instance : IsFld Try.prog 241 9 9 1 := ⟨⟨_, _, Try.underlying241, rfl, rfl, Try.sizeOf238, by decide⟩⟩
instance : IsFld Try.prog 241 10 10 1 := ⟨⟨_, _, Try.underlying241, rfl, rfl, Try.sizeOf239, by decide⟩⟩
instance : IsVar Try.prog 242 true 2 := ⟨Try.isAgg242, Try.sizeOf242⟩
instance : IsNew Try.prog 242 [vlit (.string .empty), vlit (.int .u8 0)] := ⟨⟨_, Try.zeroValue242, fun _ => .cons rfl (.cons rfl (.nil))⟩⟩
instance : IsStruct Try.prog 242 [(0, 1), (1, 1)] := ⟨⟨_, Try.underlying242, fun w => by simp [Try.sizeOf9, Try.sizeOf235]⟩⟩
instance : IsFld Try.prog 242 0 0 1 := ⟨⟨_, _, Try.underlying242, rfl, rfl, Try.sizeOf9, by decide⟩⟩
instance : IsFld Try.prog 242 1 1 1 := ⟨⟨_, _, Try.underlying242, rfl, rfl, Try.sizeOf235, by decide⟩⟩
instance : IsVar Try.prog 243 true 2 := ⟨Try.isAgg243, Try.sizeOf243⟩
instance : IsNew Try.prog 243 [vlit (.string .empty), vlit (.int .u8 0)] := ⟨⟨_, Try.zeroValue243, fun _ => .cons rfl (.cons rfl (.nil))⟩⟩
instance : IsStruct Try.prog 243 [(0, 1), (1, 1)] := ⟨⟨_, Try.underlying243, fun w => by simp [Try.sizeOf9, Try.sizeOf235]⟩⟩
instance : IsFld Try.prog 243 0 0 1 := ⟨⟨_, _, Try.underlying243, rfl, rfl, Try.sizeOf9, by decide⟩⟩
instance : IsFld Try.prog 243 1 1 1 := ⟨⟨_, _, Try.underlying243, rfl, rfl, Try.sizeOf235, by decide⟩⟩
end Go.Proofs.Ytiifdhdhjioefaa
