/- The facts on the types of this translation, as class instances. No conditions. -/
import Derived.Test.YtejeeokjjbiadaaProg
import Derived.KernelRfl
import Derived.Test.YtejeeokjjbiadaaCoreZ
namespace Go.Proofs.Ytejeeokjjbiadaa
open Go Go.Proofs

instance : IsVar Try.prog 1 false 1 := ⟨Try.isAgg1, Try.sizeOf1⟩
instance : IsNew Try.prog 1 [vlit (.nilFunc)] := ⟨⟨_, Try.zeroValue1, fun _ => .cons rfl (.nil)⟩⟩
instance : IsVar Try.prog 2 false 1 := ⟨Try.isAgg2, Try.sizeOf2⟩
instance : IsNew Try.prog 2 [vlit (.int .i64 0)] := ⟨⟨_, Try.zeroValue2, fun _ => .cons rfl (.nil)⟩⟩
instance : IsI64 Try.prog 2 := ⟨Try.underlying2⟩
instance : IsVar Try.prog 3 false 1 := ⟨Try.isAgg3, Try.sizeOf3⟩
instance : IsNew Try.prog 3 [vlit (.int .i64 0)] := ⟨⟨_, Try.zeroValue3, fun _ => .cons rfl (.nil)⟩⟩
instance : IsI64 Try.prog 3 := ⟨Try.underlying3⟩
instance : IsVar Try.prog 4 false 1 := ⟨Try.isAgg4, Try.sizeOf4⟩
instance : IsNew Try.prog 4 [vlit (.bool false)] := ⟨⟨_, Try.zeroValue4, fun _ => .cons rfl (.nil)⟩⟩
instance : IsBool Try.prog 4 := ⟨Try.underlying4⟩
instance : IsVar Try.prog 5 false 1 := ⟨Try.isAgg5, Try.sizeOf5⟩
instance : IsNew Try.prog 5 [vlit (.int .u8 0)] := ⟨⟨_, Try.zeroValue5, fun _ => .cons rfl (.nil)⟩⟩
instance : IsU8 Try.prog 5 := ⟨Try.underlying5⟩
instance : IsVar Try.prog 6 false 1 := ⟨Try.isAgg6, Try.sizeOf6⟩
instance : IsNew Try.prog 6 [vlit (.int .u8 0)] := ⟨⟨_, Try.zeroValue6, fun _ => .cons rfl (.nil)⟩⟩
instance : IsU8 Try.prog 6 := ⟨Try.underlying6⟩
instance : IsVar Try.prog 7 true 4 := ⟨Try.isAgg7, Try.sizeOf7⟩
instance : IsNew Try.prog 7 [vlit (.int .i64 0), vlit (.int .i64 0), vlit (.bool false), vlit (.int .u8 0)] := ⟨⟨_, Try.zeroValue7, fun _ => .cons rfl (.cons rfl (.cons rfl (.cons rfl (.nil))))⟩⟩
instance : IsStruct Try.prog 7 [(0, 1), (1, 1), (2, 1), (3, 1)] := ⟨⟨_, Try.underlying7, fun w => by simp [Try.sizeOf2, Try.sizeOf3, Try.sizeOf4, Try.sizeOf6]⟩⟩
instance : IsFld Try.prog 7 0 0 1 := ⟨⟨_, _, Try.underlying7, rfl, rfl, Try.sizeOf2, by decide⟩⟩
instance : IsFld Try.prog 7 1 1 1 := ⟨⟨_, _, Try.underlying7, rfl, rfl, Try.sizeOf3, by decide⟩⟩
instance : IsFld Try.prog 7 2 2 1 := ⟨⟨_, _, Try.underlying7, rfl, rfl, Try.sizeOf4, by decide⟩⟩
instance : IsFld Try.prog 7 3 3 1 := ⟨⟨_, _, Try.underlying7, rfl, rfl, Try.sizeOf6, by decide⟩⟩
instance : IsVar Try.prog 8 true 4 := ⟨Try.isAgg8, Try.sizeOf8⟩
instance : IsNew Try.prog 8 [vlit (.int .i64 0), vlit (.int .i64 0), vlit (.bool false), vlit (.int .u8 0)] := ⟨⟨_, Try.zeroValue8, fun _ => .cons rfl (.cons rfl (.cons rfl (.cons rfl (.nil))))⟩⟩
instance : IsStruct Try.prog 8 [(0, 1), (1, 1), (2, 1), (3, 1)] := ⟨⟨_, Try.underlying8, fun w => by simp [Try.sizeOf2, Try.sizeOf3, Try.sizeOf4, Try.sizeOf6]⟩⟩
instance : IsFld Try.prog 8 0 0 1 := ⟨⟨_, _, Try.underlying8, rfl, rfl, Try.sizeOf2, by decide⟩⟩
instance : IsFld Try.prog 8 1 1 1 := ⟨⟨_, _, Try.underlying8, rfl, rfl, Try.sizeOf3, by decide⟩⟩
instance : IsFld Try.prog 8 2 2 1 := ⟨⟨_, _, Try.underlying8, rfl, rfl, Try.sizeOf4, by decide⟩⟩
instance : IsFld Try.prog 8 3 3 1 := ⟨⟨_, _, Try.underlying8, rfl, rfl, Try.sizeOf6, by decide⟩⟩
instance : IsVar Try.prog 9 false 1 := ⟨Try.isAgg9, Try.sizeOf9⟩
instance : IsNew Try.prog 9 [vlit (.string .empty)] := ⟨⟨_, Try.zeroValue9, fun _ => .cons rfl (.nil)⟩⟩
instance : IsStr Try.prog 9 := ⟨Try.underlying9⟩
instance : IsVar Try.prog 10 false 1 := ⟨Try.isAgg10, Try.sizeOf10⟩
instance : IsNew Try.prog 10 [vlit (.string .empty)] := ⟨⟨_, Try.zeroValue10, fun _ => .cons rfl (.nil)⟩⟩
instance : IsStr Try.prog 10 := ⟨Try.underlying10⟩
instance : IsVar Try.prog 11 false 1 := ⟨Try.isAgg11, Try.sizeOf11⟩
instance : IsNew Try.prog 11 [vlit (.string .empty)] := ⟨⟨_, Try.zeroValue11, fun _ => .cons rfl (.nil)⟩⟩
instance : IsStr Try.prog 11 := ⟨Try.underlying11⟩
instance : IsVar Try.prog 12 false 1 := ⟨Try.isAgg12, Try.sizeOf12⟩
instance : IsNew Try.prog 12 [vlit (.int .u64 0)] := ⟨⟨_, Try.zeroValue12, fun _ => .cons rfl (.nil)⟩⟩
instance : IsU64 Try.prog 12 := ⟨Try.underlying12⟩
instance : IsVar Try.prog 13 true 2 := ⟨Try.isAgg13, Try.sizeOf13⟩
instance : IsNew Try.prog 13 [vlit (.string .empty), vlit (.int .u64 0)] := ⟨⟨_, Try.zeroValue13, fun _ => .cons rfl (.cons rfl (.nil))⟩⟩
instance : IsStruct Try.prog 13 [(0, 1), (1, 1)] := ⟨⟨_, Try.underlying13, fun w => by simp [Try.sizeOf9, Try.sizeOf12]⟩⟩
instance : IsFld Try.prog 13 0 0 1 := ⟨⟨_, _, Try.underlying13, rfl, rfl, Try.sizeOf9, by decide⟩⟩
instance : IsFld Try.prog 13 1 1 1 := ⟨⟨_, _, Try.underlying13, rfl, rfl, Try.sizeOf12, by decide⟩⟩
instance : IsVar Try.prog 14 true 2 := ⟨Try.isAgg14, Try.sizeOf14⟩
instance : IsNew Try.prog 14 [vlit (.string .empty), vlit (.int .u64 0)] := ⟨⟨_, Try.zeroValue14, fun _ => .cons rfl (.cons rfl (.nil))⟩⟩
instance : IsStruct Try.prog 14 [(0, 1), (1, 1)] := ⟨⟨_, Try.underlying14, fun w => by simp [Try.sizeOf9, Try.sizeOf12]⟩⟩
instance : IsFld Try.prog 14 0 0 1 := ⟨⟨_, _, Try.underlying14, rfl, rfl, Try.sizeOf9, by decide⟩⟩
instance : IsFld Try.prog 14 1 1 1 := ⟨⟨_, _, Try.underlying14, rfl, rfl, Try.sizeOf12, by decide⟩⟩
instance : IsVar Try.prog 15 false 1 := ⟨Try.isAgg15, Try.sizeOf15⟩
instance : IsNew Try.prog 15 [vlit (.pointer none)] := ⟨⟨_, Try.zeroValue15, fun _ => .cons rfl (.nil)⟩⟩
instance : IsVar Try.prog 16 false 1 := ⟨Try.isAgg16, Try.sizeOf16⟩
instance : IsNew Try.prog 16 [vlit (.pointer none)] := ⟨⟨_, Try.zeroValue16, fun _ => .cons rfl (.nil)⟩⟩
instance : IsVar Try.prog 17 false 1 := ⟨Try.isAgg17, Try.sizeOf17⟩
instance : IsNew Try.prog 17 [vlit (.pointer none)] := ⟨⟨_, Try.zeroValue17, fun _ => .cons rfl (.nil)⟩⟩
instance : IsVar Try.prog 18 true 1 := ⟨Try.isAgg18, Try.sizeOf18⟩
instance : IsNew Try.prog 18 [vlit (.pointer none)] := ⟨⟨_, Try.zeroValue18, fun _ => .cons rfl (.nil)⟩⟩
instance : IsStruct Try.prog 18 [(0, 1)] := ⟨⟨_, Try.underlying18, fun w => by simp [Try.sizeOf17]⟩⟩
instance : IsFld Try.prog 18 0 0 1 := ⟨⟨_, _, Try.underlying18, rfl, rfl, Try.sizeOf17, by decide⟩⟩
instance : IsVar Try.prog 19 true 1 := ⟨Try.isAgg19, Try.sizeOf19⟩
instance : IsNew Try.prog 19 [vlit (.pointer none)] := ⟨⟨_, Try.zeroValue19, fun _ => .cons rfl (.nil)⟩⟩
instance : IsStruct Try.prog 19 [(0, 1)] := ⟨⟨_, Try.underlying19, fun w => by simp [Try.sizeOf17]⟩⟩
instance : IsFld Try.prog 19 0 0 1 := ⟨⟨_, _, Try.underlying19, rfl, rfl, Try.sizeOf17, by decide⟩⟩
instance : IsVar Try.prog 21 false 1 := ⟨Try.isAgg21, Try.sizeOf21⟩
instance : IsNew Try.prog 21 [vlit (.int .i32 0)] := ⟨⟨_, Try.zeroValue21, fun _ => .cons rfl (.nil)⟩⟩
instance : IsVar Try.prog 22 false 1 := ⟨Try.isAgg22, Try.sizeOf22⟩
instance : IsNew Try.prog 22 [vlit (.slice none 0 0)] := ⟨⟨_, Try.zeroValue22, fun _ => .cons rfl (.nil)⟩⟩
instance : IsSl Try.prog 22 181 2 := ⟨Try.underlying22, Try.sizeOf181⟩
instance : IsSlM Try.prog 22 181 2 32 (.agg #[.int .i64 0, .slice none 0 0]) := ⟨⟨Try.t181, Try.underlying22, by kernel_rfl, rfl, rfl, rfl, rfl, by decide⟩⟩
instance : IsVar Try.prog 23 true 2 := ⟨Try.isAgg23, Try.sizeOf23⟩
instance : IsNew Try.prog 23 [vlit (.int .i64 0), vlit (.slice none 0 0)] := ⟨⟨_, Try.zeroValue23, fun _ => .cons rfl (.cons rfl (.nil))⟩⟩
instance : IsStruct Try.prog 23 [(0, 1), (1, 1)] := ⟨⟨_, Try.underlying23, fun w => by simp [Try.sizeOf3, Try.sizeOf22]⟩⟩
instance : IsFld Try.prog 23 0 0 1 := ⟨⟨_, _, Try.underlying23, rfl, rfl, Try.sizeOf3, by decide⟩⟩
instance : IsFld Try.prog 23 1 1 1 := ⟨⟨_, _, Try.underlying23, rfl, rfl, Try.sizeOf22, by decide⟩⟩
instance : IsVar Try.prog 24 true 2 := ⟨Try.isAgg24, Try.sizeOf24⟩
instance : IsNew Try.prog 24 [vlit (.int .i64 0), vlit (.slice none 0 0)] := ⟨⟨_, Try.zeroValue24, fun _ => .cons rfl (.cons rfl (.nil))⟩⟩
instance : IsStruct Try.prog 24 [(0, 1), (1, 1)] := ⟨⟨_, Try.underlying24, fun w => by simp [Try.sizeOf3, Try.sizeOf22]⟩⟩
instance : IsFld Try.prog 24 0 0 1 := ⟨⟨_, _, Try.underlying24, rfl, rfl, Try.sizeOf3, by decide⟩⟩
instance : IsFld Try.prog 24 1 1 1 := ⟨⟨_, _, Try.underlying24, rfl, rfl, Try.sizeOf22, by decide⟩⟩
instance : IsVar Try.prog 25 false 1 := ⟨Try.isAgg25, Try.sizeOf25⟩
instance : IsNew Try.prog 25 [vlit (.nilFunc)] := ⟨⟨_, Try.zeroValue25, fun _ => .cons rfl (.nil)⟩⟩
instance : IsVar Try.prog 26 false 1 := ⟨Try.isAgg26, Try.sizeOf26⟩
instance : IsNew Try.prog 26 [vlit (.slice none 0 0)] := ⟨⟨_, Try.zeroValue26, fun _ => .cons rfl (.nil)⟩⟩
instance : IsSl Try.prog 26 42 2 := ⟨Try.underlying26, Try.sizeOf42⟩
instance : IsSlM Try.prog 26 42 2 32 (.agg #[.int .i64 0, .slice none 0 0]) := ⟨⟨Try.t42, Try.underlying26, by kernel_rfl, rfl, rfl, rfl, rfl, by decide⟩⟩
instance : IsVar Try.prog 27 true 2 := ⟨Try.isAgg27, Try.sizeOf27⟩
instance : IsNew Try.prog 27 [vlit (.int .i64 0), vlit (.slice none 0 0)] := ⟨⟨_, Try.zeroValue27, fun _ => .cons rfl (.cons rfl (.nil))⟩⟩
instance : IsStruct Try.prog 27 [(0, 1), (1, 1)] := ⟨⟨_, Try.underlying27, fun w => by simp [Try.sizeOf3, Try.sizeOf26]⟩⟩
instance : IsFld Try.prog 27 0 0 1 := ⟨⟨_, _, Try.underlying27, rfl, rfl, Try.sizeOf3, by decide⟩⟩
instance : IsFld Try.prog 27 1 1 1 := ⟨⟨_, _, Try.underlying27, rfl, rfl, Try.sizeOf26, by decide⟩⟩
instance : IsVar Try.prog 28 true 2 := ⟨Try.isAgg28, Try.sizeOf28⟩
instance : IsNew Try.prog 28 [vlit (.int .i64 0), vlit (.slice none 0 0)] := ⟨⟨_, Try.zeroValue28, fun _ => .cons rfl (.cons rfl (.nil))⟩⟩
instance : IsStruct Try.prog 28 [(0, 1), (1, 1)] := ⟨⟨_, Try.underlying28, fun w => by simp [Try.sizeOf3, Try.sizeOf26]⟩⟩
instance : IsFld Try.prog 28 0 0 1 := ⟨⟨_, _, Try.underlying28, rfl, rfl, Try.sizeOf3, by decide⟩⟩
instance : IsFld Try.prog 28 1 1 1 := ⟨⟨_, _, Try.underlying28, rfl, rfl, Try.sizeOf26, by decide⟩⟩
instance : IsVar Try.prog 30 false 1 := ⟨Try.isAgg30, Try.sizeOf30⟩
instance : IsNew Try.prog 30 [vlit (.nilFunc)] := ⟨⟨_, Try.zeroValue30, fun _ => .cons rfl (.nil)⟩⟩
instance : IsVar Try.prog 31 false 1 := ⟨Try.isAgg31, Try.sizeOf31⟩
instance : IsNew Try.prog 31 [vlit (.nilFunc)] := ⟨⟨_, Try.zeroValue31, fun _ => .cons rfl (.nil)⟩⟩
instance : IsVar Try.prog 32 false 1 := ⟨Try.isAgg32, Try.sizeOf32⟩
instance : IsNew Try.prog 32 [vlit (.nilFunc)] := ⟨⟨_, Try.zeroValue32, fun _ => .cons rfl (.nil)⟩⟩
instance : IsVar Try.prog 33 false 1 := ⟨Try.isAgg33, Try.sizeOf33⟩
instance : IsNew Try.prog 33 [vlit (.nilFunc)] := ⟨⟨_, Try.zeroValue33, fun _ => .cons rfl (.nil)⟩⟩
instance : IsVar Try.prog 34 false 1 := ⟨Try.isAgg34, Try.sizeOf34⟩
instance : IsNew Try.prog 34 [vlit (.nilFunc)] := ⟨⟨_, Try.zeroValue34, fun _ => .cons rfl (.nil)⟩⟩
instance : IsVar Try.prog 35 false 1 := ⟨Try.isAgg35, Try.sizeOf35⟩
instance : IsNew Try.prog 35 [vlit (.slice none 0 0)] := ⟨⟨_, Try.zeroValue35, fun _ => .cons rfl (.nil)⟩⟩
instance : IsSl Try.prog 35 3 1 := ⟨Try.underlying35, Try.sizeOf3⟩
instance : IsSlM Try.prog 35 3 1 8 (.int .i64 0) := ⟨⟨Try.t3, Try.underlying35, by kernel_rfl, rfl, rfl, rfl, rfl, by decide⟩⟩
instance : IsVar Try.prog 37 false 1 := ⟨Try.isAgg37, Try.sizeOf37⟩
instance : IsNew Try.prog 37 [vlit (.nilFunc)] := ⟨⟨_, Try.zeroValue37, fun _ => .cons rfl (.nil)⟩⟩
instance : IsVar Try.prog 38 false 1 := ⟨Try.isAgg38, Try.sizeOf38⟩
instance : IsNew Try.prog 38 [vlit (.nilFunc)] := ⟨⟨_, Try.zeroValue38, fun _ => .cons rfl (.nil)⟩⟩
instance : IsVar Try.prog 39 false 1 := ⟨Try.isAgg39, Try.sizeOf39⟩
instance : IsNew Try.prog 39 [vlit (.nilFunc)] := ⟨⟨_, Try.zeroValue39, fun _ => .cons rfl (.nil)⟩⟩
instance : IsVar Try.prog 40 false 1 := ⟨Try.isAgg40, Try.sizeOf40⟩
instance : IsNew Try.prog 40 [vlit (.nilFunc)] := ⟨⟨_, Try.zeroValue40, fun _ => .cons rfl (.nil)⟩⟩
instance : IsVar Try.prog 41 true 2 := ⟨Try.isAgg41, Try.sizeOf41⟩
instance : IsNew Try.prog 41 [vlit (.int .i64 0), vlit (.slice none 0 0)] := ⟨⟨_, Try.zeroValue41, fun _ => .cons rfl (.cons rfl (.nil))⟩⟩
instance : IsStruct Try.prog 41 [(0, 1), (1, 1)] := ⟨⟨_, Try.underlying41, fun w => by simp [Try.sizeOf3, Try.sizeOf35]⟩⟩
instance : IsFld Try.prog 41 0 0 1 := ⟨⟨_, _, Try.underlying41, rfl, rfl, Try.sizeOf3, by decide⟩⟩
instance : IsFld Try.prog 41 1 1 1 := ⟨⟨_, _, Try.underlying41, rfl, rfl, Try.sizeOf35, by decide⟩⟩
instance : IsVar Try.prog 42 true 2 := ⟨Try.isAgg42, Try.sizeOf42⟩
instance : IsNew Try.prog 42 [vlit (.int .i64 0), vlit (.slice none 0 0)] := ⟨⟨_, Try.zeroValue42, fun _ => .cons rfl (.cons rfl (.nil))⟩⟩
instance : IsStruct Try.prog 42 [(0, 1), (1, 1)] := ⟨⟨_, Try.underlying42, fun w => by simp [Try.sizeOf3, Try.sizeOf35]⟩⟩
instance : IsFld Try.prog 42 0 0 1 := ⟨⟨_, _, Try.underlying42, rfl, rfl, Try.sizeOf3, by decide⟩⟩
instance : IsFld Try.prog 42 1 1 1 := ⟨⟨_, _, Try.underlying42, rfl, rfl, Try.sizeOf35, by decide⟩⟩
instance : IsVar Try.prog 44 false 1 := ⟨Try.isAgg44, Try.sizeOf44⟩
instance : IsNew Try.prog 44 [vlit (.nilFunc)] := ⟨⟨_, Try.zeroValue44, fun _ => .cons rfl (.nil)⟩⟩
instance : IsVar Try.prog 45 false 1 := ⟨Try.isAgg45, Try.sizeOf45⟩
instance : IsNew Try.prog 45 [vlit (.nilFunc)] := ⟨⟨_, Try.zeroValue45, fun _ => .cons rfl (.nil)⟩⟩
instance : IsVar Try.prog 46 false 1 := ⟨Try.isAgg46, Try.sizeOf46⟩
instance : IsNew Try.prog 46 [vlit (.nilFunc)] := ⟨⟨_, Try.zeroValue46, fun _ => .cons rfl (.nil)⟩⟩
instance : IsVar Try.prog 47 false 1 := ⟨Try.isAgg47, Try.sizeOf47⟩
instance : IsNew Try.prog 47 [vlit (.nilFunc)] := ⟨⟨_, Try.zeroValue47, fun _ => .cons rfl (.nil)⟩⟩
instance : IsVar Try.prog 49 false 1 := ⟨Try.isAgg49, Try.sizeOf49⟩
instance : IsNew Try.prog 49 [vlit (.nilFunc)] := ⟨⟨_, Try.zeroValue49, fun _ => .cons rfl (.nil)⟩⟩
instance : IsVar Try.prog 50 false 1 := ⟨Try.isAgg50, Try.sizeOf50⟩
instance : IsNew Try.prog 50 [vlit (.nilFunc)] := ⟨⟨_, Try.zeroValue50, fun _ => .cons rfl (.nil)⟩⟩
instance : IsVar Try.prog 51 false 1 := ⟨Try.isAgg51, Try.sizeOf51⟩
instance : IsNew Try.prog 51 [vlit (.nilFunc)] := ⟨⟨_, Try.zeroValue51, fun _ => .cons rfl (.nil)⟩⟩
instance : IsVar Try.prog 52 false 1 := ⟨Try.isAgg52, Try.sizeOf52⟩
instance : IsNew Try.prog 52 [vlit (.nilFunc)] := ⟨⟨_, Try.zeroValue52, fun _ => .cons rfl (.nil)⟩⟩
instance : IsVar Try.prog 53 false 1 := ⟨Try.isAgg53, Try.sizeOf53⟩
instance : IsNew Try.prog 53 [vlit (.slice none 0 0)] := ⟨⟨_, Try.zeroValue53, fun _ => .cons rfl (.nil)⟩⟩
instance : IsSl Try.prog 53 35 1 := ⟨Try.underlying53, Try.sizeOf35⟩
instance : IsSlM Try.prog 53 35 1 24 (.slice none 0 0) := ⟨⟨Try.t35, Try.underlying53, by kernel_rfl, rfl, rfl, rfl, rfl, by decide⟩⟩
instance : IsVar Try.prog 55 false 1 := ⟨Try.isAgg55, Try.sizeOf55⟩
instance : IsNew Try.prog 55 [vlit (.nilFunc)] := ⟨⟨_, Try.zeroValue55, fun _ => .cons rfl (.nil)⟩⟩
instance : IsVar Try.prog 56 false 1 := ⟨Try.isAgg56, Try.sizeOf56⟩
instance : IsNew Try.prog 56 [vlit (.nilFunc)] := ⟨⟨_, Try.zeroValue56, fun _ => .cons rfl (.nil)⟩⟩
instance : IsVar Try.prog 57 false 1 := ⟨Try.isAgg57, Try.sizeOf57⟩
instance : IsNew Try.prog 57 [vlit (.nilFunc)] := ⟨⟨_, Try.zeroValue57, fun _ => .cons rfl (.nil)⟩⟩
instance : IsVar Try.prog 58 false 1 := ⟨Try.isAgg58, Try.sizeOf58⟩
instance : IsNew Try.prog 58 [vlit (.nilFunc)] := ⟨⟨_, Try.zeroValue58, fun _ => .cons rfl (.nil)⟩⟩
instance : IsVar Try.prog 59 false 1 := ⟨Try.isAgg59, Try.sizeOf59⟩
instance : IsNew Try.prog 59 [vlit (.nilFunc)] := ⟨⟨_, Try.zeroValue59, fun _ => .cons rfl (.nil)⟩⟩
instance : IsVar Try.prog 60 false 1 := ⟨Try.isAgg60, Try.sizeOf60⟩
instance : IsNew Try.prog 60 [vlit (.nilFunc)] := ⟨⟨_, Try.zeroValue60, fun _ => .cons rfl (.nil)⟩⟩
instance : IsVar Try.prog 62 false 1 := ⟨Try.isAgg62, Try.sizeOf62⟩
instance : IsNew Try.prog 62 [vlit (.nilFunc)] := ⟨⟨_, Try.zeroValue62, fun _ => .cons rfl (.nil)⟩⟩
instance : IsVar Try.prog 63 false 1 := ⟨Try.isAgg63, Try.sizeOf63⟩
instance : IsNew Try.prog 63 [vlit (.nilFunc)] := ⟨⟨_, Try.zeroValue63, fun _ => .cons rfl (.nil)⟩⟩
instance : IsVar Try.prog 64 false 1 := ⟨Try.isAgg64, Try.sizeOf64⟩
instance : IsNew Try.prog 64 [vlit (.nilFunc)] := ⟨⟨_, Try.zeroValue64, fun _ => .cons rfl (.nil)⟩⟩
instance : IsVar Try.prog 65 false 1 := ⟨Try.isAgg65, Try.sizeOf65⟩
instance : IsNew Try.prog 65 [vlit (.slice none 0 0)] := ⟨⟨_, Try.zeroValue65, fun _ => .cons rfl (.nil)⟩⟩
instance : IsSl Try.prog 65 198 2 := ⟨Try.underlying65, Try.sizeOf198⟩
instance : IsSlM Try.prog 65 198 2 48 (.agg #[.slice none 0 0, .slice none 0 0]) := ⟨⟨Try.t198, Try.underlying65, by kernel_rfl, rfl, rfl, rfl, rfl, by decide⟩⟩
instance : IsVar Try.prog 66 true 2 := ⟨Try.isAgg66, Try.sizeOf66⟩
instance : IsNew Try.prog 66 [vlit (.int .i64 0), vlit (.slice none 0 0)] := ⟨⟨_, Try.zeroValue66, fun _ => .cons rfl (.cons rfl (.nil))⟩⟩
instance : IsStruct Try.prog 66 [(0, 1), (1, 1)] := ⟨⟨_, Try.underlying66, fun w => by simp [Try.sizeOf3, Try.sizeOf65]⟩⟩
instance : IsFld Try.prog 66 0 0 1 := ⟨⟨_, _, Try.underlying66, rfl, rfl, Try.sizeOf3, by decide⟩⟩
instance : IsFld Try.prog 66 1 1 1 := ⟨⟨_, _, Try.underlying66, rfl, rfl, Try.sizeOf65, by decide⟩⟩
instance : IsVar Try.prog 67 true 2 := ⟨Try.isAgg67, Try.sizeOf67⟩
instance : IsNew Try.prog 67 [vlit (.int .i64 0), vlit (.slice none 0 0)] := ⟨⟨_, Try.zeroValue67, fun _ => .cons rfl (.cons rfl (.nil))⟩⟩
instance : IsStruct Try.prog 67 [(0, 1), (1, 1)] := ⟨⟨_, Try.underlying67, fun w => by simp [Try.sizeOf3, Try.sizeOf65]⟩⟩
instance : IsFld Try.prog 67 0 0 1 := ⟨⟨_, _, Try.underlying67, rfl, rfl, Try.sizeOf3, by decide⟩⟩
instance : IsFld Try.prog 67 1 1 1 := ⟨⟨_, _, Try.underlying67, rfl, rfl, Try.sizeOf65, by decide⟩⟩
instance : IsVar Try.prog 68 false 1 := ⟨Try.isAgg68, Try.sizeOf68⟩
instance : IsNew Try.prog 68 [vlit (.nilFunc)] := ⟨⟨_, Try.zeroValue68, fun _ => .cons rfl (.nil)⟩⟩
instance : IsVar Try.prog 70 false 1 := ⟨Try.isAgg70, Try.sizeOf70⟩
instance : IsNew Try.prog 70 [vlit (.nilFunc)] := ⟨⟨_, Try.zeroValue70, fun _ => .cons rfl (.nil)⟩⟩
instance : IsVar Try.prog 71 false 1 := ⟨Try.isAgg71, Try.sizeOf71⟩
instance : IsNew Try.prog 71 [vlit (.slice none 0 0)] := ⟨⟨_, Try.zeroValue71, fun _ => .cons rfl (.nil)⟩⟩
instance : IsSl Try.prog 71 200 2 := ⟨Try.underlying71, Try.sizeOf200⟩
instance : IsSlM Try.prog 71 200 2 48 (.agg #[.slice none 0 0, .slice none 0 0]) := ⟨⟨Try.t200, Try.underlying71, by kernel_rfl, rfl, rfl, rfl, rfl, by decide⟩⟩
instance : IsVar Try.prog 72 true 2 := ⟨Try.isAgg72, Try.sizeOf72⟩
instance : IsNew Try.prog 72 [vlit (.int .i64 0), vlit (.slice none 0 0)] := ⟨⟨_, Try.zeroValue72, fun _ => .cons rfl (.cons rfl (.nil))⟩⟩
instance : IsStruct Try.prog 72 [(0, 1), (1, 1)] := ⟨⟨_, Try.underlying72, fun w => by simp [Try.sizeOf3, Try.sizeOf71]⟩⟩
instance : IsFld Try.prog 72 0 0 1 := ⟨⟨_, _, Try.underlying72, rfl, rfl, Try.sizeOf3, by decide⟩⟩
instance : IsFld Try.prog 72 1 1 1 := ⟨⟨_, _, Try.underlying72, rfl, rfl, Try.sizeOf71, by decide⟩⟩
instance : IsVar Try.prog 73 true 2 := ⟨Try.isAgg73, Try.sizeOf73⟩
instance : IsNew Try.prog 73 [vlit (.int .i64 0), vlit (.slice none 0 0)] := ⟨⟨_, Try.zeroValue73, fun _ => .cons rfl (.cons rfl (.nil))⟩⟩
instance : IsStruct Try.prog 73 [(0, 1), (1, 1)] := ⟨⟨_, Try.underlying73, fun w => by simp [Try.sizeOf3, Try.sizeOf71]⟩⟩
instance : IsFld Try.prog 73 0 0 1 := ⟨⟨_, _, Try.underlying73, rfl, rfl, Try.sizeOf3, by decide⟩⟩
instance : IsFld Try.prog 73 1 1 1 := ⟨⟨_, _, Try.underlying73, rfl, rfl, Try.sizeOf71, by decide⟩⟩
instance : IsVar Try.prog 74 false 1 := ⟨Try.isAgg74, Try.sizeOf74⟩
instance : IsNew Try.prog 74 [vlit (.nilFunc)] := ⟨⟨_, Try.zeroValue74, fun _ => .cons rfl (.nil)⟩⟩
instance : IsVar Try.prog 75 false 1 := ⟨Try.isAgg75, Try.sizeOf75⟩
instance : IsNew Try.prog 75 [vlit (.nilFunc)] := ⟨⟨_, Try.zeroValue75, fun _ => .cons rfl (.nil)⟩⟩
instance : IsVar Try.prog 76 false 1 := ⟨Try.isAgg76, Try.sizeOf76⟩
instance : IsNew Try.prog 76 [vlit (.nilFunc)] := ⟨⟨_, Try.zeroValue76, fun _ => .cons rfl (.nil)⟩⟩
instance : IsVar Try.prog 77 false 1 := ⟨Try.isAgg77, Try.sizeOf77⟩
instance : IsNew Try.prog 77 [vlit (.nilFunc)] := ⟨⟨_, Try.zeroValue77, fun _ => .cons rfl (.nil)⟩⟩
instance : IsVar Try.prog 78 false 1 := ⟨Try.isAgg78, Try.sizeOf78⟩
instance : IsNew Try.prog 78 [vlit (.slice none 0 0)] := ⟨⟨_, Try.zeroValue78, fun _ => .cons rfl (.nil)⟩⟩
instance : IsSl Try.prog 78 158 2 := ⟨Try.underlying78, Try.sizeOf158⟩
instance : IsSlM Try.prog 78 158 2 32 (.agg #[.int .i64 0, .slice none 0 0]) := ⟨⟨Try.t158, Try.underlying78, by kernel_rfl, rfl, rfl, rfl, rfl, by decide⟩⟩
instance : IsVar Try.prog 79 false 1 := ⟨Try.isAgg79, Try.sizeOf79⟩
instance : IsNew Try.prog 79 [vlit (.nilFunc)] := ⟨⟨_, Try.zeroValue79, fun _ => .cons rfl (.nil)⟩⟩
instance : IsVar Try.prog 80 false 1 := ⟨Try.isAgg80, Try.sizeOf80⟩
instance : IsNew Try.prog 80 [vlit (.nilFunc)] := ⟨⟨_, Try.zeroValue80, fun _ => .cons rfl (.nil)⟩⟩
instance : IsVar Try.prog 81 false 1 := ⟨Try.isAgg81, Try.sizeOf81⟩
instance : IsNew Try.prog 81 [vlit (.slice none 0 0)] := ⟨⟨_, Try.zeroValue81, fun _ => .cons rfl (.nil)⟩⟩
instance : IsSl Try.prog 81 160 2 := ⟨Try.underlying81, Try.sizeOf160⟩
instance : IsSlM Try.prog 81 160 2 32 (.agg #[.int .i64 0, .slice none 0 0]) := ⟨⟨Try.t160, Try.underlying81, by kernel_rfl, rfl, rfl, rfl, rfl, by decide⟩⟩
instance : IsVar Try.prog 82 false 1 := ⟨Try.isAgg82, Try.sizeOf82⟩
instance : IsNew Try.prog 82 [vlit (.nilFunc)] := ⟨⟨_, Try.zeroValue82, fun _ => .cons rfl (.nil)⟩⟩
instance : IsVar Try.prog 83 false 1 := ⟨Try.isAgg83, Try.sizeOf83⟩
instance : IsNew Try.prog 83 [vlit (.nilFunc)] := ⟨⟨_, Try.zeroValue83, fun _ => .cons rfl (.nil)⟩⟩
instance : IsVar Try.prog 84 false 1 := ⟨Try.isAgg84, Try.sizeOf84⟩
instance : IsNew Try.prog 84 [vlit (.nilFunc)] := ⟨⟨_, Try.zeroValue84, fun _ => .cons rfl (.nil)⟩⟩
instance : IsVar Try.prog 85 false 1 := ⟨Try.isAgg85, Try.sizeOf85⟩
instance : IsNew Try.prog 85 [vlit (.slice none 0 0)] := ⟨⟨_, Try.zeroValue85, fun _ => .cons rfl (.nil)⟩⟩
instance : IsSl Try.prog 85 165 2 := ⟨Try.underlying85, Try.sizeOf165⟩
instance : IsSlM Try.prog 85 165 2 32 (.agg #[.int .i64 0, .slice none 0 0]) := ⟨⟨Try.t165, Try.underlying85, by kernel_rfl, rfl, rfl, rfl, rfl, by decide⟩⟩
instance : IsVar Try.prog 86 false 1 := ⟨Try.isAgg86, Try.sizeOf86⟩
instance : IsNew Try.prog 86 [vlit (.slice none 0 0)] := ⟨⟨_, Try.zeroValue86, fun _ => .cons rfl (.nil)⟩⟩
instance : IsSl Try.prog 86 168 2 := ⟨Try.underlying86, Try.sizeOf168⟩
instance : IsSlM Try.prog 86 168 2 32 (.agg #[.int .i64 0, .slice none 0 0]) := ⟨⟨Try.t168, Try.underlying86, by kernel_rfl, rfl, rfl, rfl, rfl, by decide⟩⟩
instance : IsVar Try.prog 87 false 1 := ⟨Try.isAgg87, Try.sizeOf87⟩
instance : IsNew Try.prog 87 [vlit (.nilFunc)] := ⟨⟨_, Try.zeroValue87, fun _ => .cons rfl (.nil)⟩⟩
instance : IsVar Try.prog 88 false 1 := ⟨Try.isAgg88, Try.sizeOf88⟩
instance : IsNew Try.prog 88 [vlit (.nilFunc)] := ⟨⟨_, Try.zeroValue88, fun _ => .cons rfl (.nil)⟩⟩
instance : IsVar Try.prog 89 true 2 := ⟨Try.isAgg89, Try.sizeOf89⟩
instance : IsNew Try.prog 89 [vlit (.int .i64 0), vlit (.slice none 0 0)] := ⟨⟨_, Try.zeroValue89, fun _ => .cons rfl (.cons rfl (.nil))⟩⟩
instance : IsStruct Try.prog 89 [(0, 1), (1, 1)] := ⟨⟨_, Try.underlying89, fun w => by simp [Try.sizeOf3, Try.sizeOf53]⟩⟩
instance : IsFld Try.prog 89 0 0 1 := ⟨⟨_, _, Try.underlying89, rfl, rfl, Try.sizeOf3, by decide⟩⟩
instance : IsFld Try.prog 89 1 1 1 := ⟨⟨_, _, Try.underlying89, rfl, rfl, Try.sizeOf53, by decide⟩⟩
instance : IsVar Try.prog 90 true 2 := ⟨Try.isAgg90, Try.sizeOf90⟩
instance : IsNew Try.prog 90 [vlit (.int .i64 0), vlit (.slice none 0 0)] := ⟨⟨_, Try.zeroValue90, fun _ => .cons rfl (.cons rfl (.nil))⟩⟩
instance : IsStruct Try.prog 90 [(0, 1), (1, 1)] := ⟨⟨_, Try.underlying90, fun w => by simp [Try.sizeOf3, Try.sizeOf53]⟩⟩
instance : IsFld Try.prog 90 0 0 1 := ⟨⟨_, _, Try.underlying90, rfl, rfl, Try.sizeOf3, by decide⟩⟩
instance : IsFld Try.prog 90 1 1 1 := ⟨⟨_, _, Try.underlying90, rfl, rfl, Try.sizeOf53, by decide⟩⟩
instance : IsVar Try.prog 92 false 1 := ⟨Try.isAgg92, Try.sizeOf92⟩
instance : IsNew Try.prog 92 [vlit (.nilFunc)] := ⟨⟨_, Try.zeroValue92, fun _ => .cons rfl (.nil)⟩⟩
instance : IsVar Try.prog 93 false 1 := ⟨Try.isAgg93, Try.sizeOf93⟩
instance : IsNew Try.prog 93 [vlit (.slice none 0 0)] := ⟨⟨_, Try.zeroValue93, fun _ => .cons rfl (.nil)⟩⟩
instance : IsSl Try.prog 93 90 2 := ⟨Try.underlying93, Try.sizeOf90⟩
instance : IsSlM Try.prog 93 90 2 32 (.agg #[.int .i64 0, .slice none 0 0]) := ⟨⟨Try.t90, Try.underlying93, by kernel_rfl, rfl, rfl, rfl, rfl, by decide⟩⟩
instance : IsVar Try.prog 94 false 1 := ⟨Try.isAgg94, Try.sizeOf94⟩
instance : IsNew Try.prog 94 [vlit (.nilFunc)] := ⟨⟨_, Try.zeroValue94, fun _ => .cons rfl (.nil)⟩⟩
instance : IsVar Try.prog 95 false 1 := ⟨Try.isAgg95, Try.sizeOf95⟩
instance : IsNew Try.prog 95 [vlit (.slice none 0 0)] := ⟨⟨_, Try.zeroValue95, fun _ => .cons rfl (.nil)⟩⟩
instance : IsSl Try.prog 95 173 2 := ⟨Try.underlying95, Try.sizeOf173⟩
instance : IsSlM Try.prog 95 173 2 32 (.agg #[.int .i64 0, .slice none 0 0]) := ⟨⟨Try.t173, Try.underlying95, by kernel_rfl, rfl, rfl, rfl, rfl, by decide⟩⟩
instance : IsVar Try.prog 96 false 1 := ⟨Try.isAgg96, Try.sizeOf96⟩
instance : IsNew Try.prog 96 [vlit (.nilFunc)] := ⟨⟨_, Try.zeroValue96, fun _ => .cons rfl (.nil)⟩⟩
instance : IsVar Try.prog 97 false 1 := ⟨Try.isAgg97, Try.sizeOf97⟩
instance : IsNew Try.prog 97 [vlit (.nilFunc)] := ⟨⟨_, Try.zeroValue97, fun _ => .cons rfl (.nil)⟩⟩
instance : IsVar Try.prog 98 false 1 := ⟨Try.isAgg98, Try.sizeOf98⟩
instance : IsNew Try.prog 98 [vlit (.nilFunc)] := ⟨⟨_, Try.zeroValue98, fun _ => .cons rfl (.nil)⟩⟩
instance : IsVar Try.prog 99 false 1 := ⟨Try.isAgg99, Try.sizeOf99⟩
instance : IsNew Try.prog 99 [vlit (.nilFunc)] := ⟨⟨_, Try.zeroValue99, fun _ => .cons rfl (.nil)⟩⟩
instance : IsVar Try.prog 100 false 1 := ⟨Try.isAgg100, Try.sizeOf100⟩
instance : IsNew Try.prog 100 [vlit (.nilFunc)] := ⟨⟨_, Try.zeroValue100, fun _ => .cons rfl (.nil)⟩⟩
instance : IsVar Try.prog 101 false 1 := ⟨Try.isAgg101, Try.sizeOf101⟩
instance : IsNew Try.prog 101 [vlit (.nilFunc)] := ⟨⟨_, Try.zeroValue101, fun _ => .cons rfl (.nil)⟩⟩
instance : IsVar Try.prog 102 false 1 := ⟨Try.isAgg102, Try.sizeOf102⟩
instance : IsNew Try.prog 102 [vlit (.nilFunc)] := ⟨⟨_, Try.zeroValue102, fun _ => .cons rfl (.nil)⟩⟩
instance : IsVar Try.prog 103 false 1 := ⟨Try.isAgg103, Try.sizeOf103⟩
instance : IsNew Try.prog 103 [vlit (.nilFunc)] := ⟨⟨_, Try.zeroValue103, fun _ => .cons rfl (.nil)⟩⟩
instance : IsVar Try.prog 104 false 1 := ⟨Try.isAgg104, Try.sizeOf104⟩
instance : IsNew Try.prog 104 [vlit (.nilFunc)] := ⟨⟨_, Try.zeroValue104, fun _ => .cons rfl (.nil)⟩⟩
instance : IsVar Try.prog 105 false 1 := ⟨Try.isAgg105, Try.sizeOf105⟩
instance : IsNew Try.prog 105 [vlit (.nilFunc)] := ⟨⟨_, Try.zeroValue105, fun _ => .cons rfl (.nil)⟩⟩
instance : IsVar Try.prog 106 false 1 := ⟨Try.isAgg106, Try.sizeOf106⟩
instance : IsNew Try.prog 106 [vlit (.nilFunc)] := ⟨⟨_, Try.zeroValue106, fun _ => .cons rfl (.nil)⟩⟩
instance : IsVar Try.prog 107 false 1 := ⟨Try.isAgg107, Try.sizeOf107⟩
instance : IsNew Try.prog 107 [vlit (.nilFunc)] := ⟨⟨_, Try.zeroValue107, fun _ => .cons rfl (.nil)⟩⟩
instance : IsVar Try.prog 108 false 1 := ⟨Try.isAgg108, Try.sizeOf108⟩
instance : IsNew Try.prog 108 [vlit (.nilFunc)] := ⟨⟨_, Try.zeroValue108, fun _ => .cons rfl (.nil)⟩⟩
instance : IsVar Try.prog 109 false 1 := ⟨Try.isAgg109, Try.sizeOf109⟩
instance : IsNew Try.prog 109 [vlit (.pointer none)] := ⟨⟨_, Try.zeroValue109, fun _ => .cons rfl (.nil)⟩⟩
instance : IsVar Try.prog 111 false 1 := ⟨Try.isAgg111, Try.sizeOf111⟩
instance : IsNew Try.prog 111 [vlit (.nilFunc)] := ⟨⟨_, Try.zeroValue111, fun _ => .cons rfl (.nil)⟩⟩
instance : IsVar Try.prog 112 false 1 := ⟨Try.isAgg112, Try.sizeOf112⟩
instance : IsNew Try.prog 112 [vlit (.pointer none)] := ⟨⟨_, Try.zeroValue112, fun _ => .cons rfl (.nil)⟩⟩
instance : IsVar Try.prog 113 true 3 := ⟨Try.isAgg113, Try.sizeOf113⟩
instance : IsNew Try.prog 113 [vlit (.pointer none), vlit (.int .i64 0), vlit (.slice none 0 0)] := ⟨⟨_, Try.zeroValue113, fun _ => .cons rfl (.cons rfl (.cons rfl (.nil)))⟩⟩
instance : IsStruct Try.prog 113 [(0, 1), (1, 1), (2, 1)] := ⟨⟨_, Try.underlying113, fun w => by simp [Try.sizeOf3, Try.sizeOf53, Try.sizeOf112]⟩⟩
instance : IsFld Try.prog 113 0 0 1 := ⟨⟨_, _, Try.underlying113, rfl, rfl, Try.sizeOf112, by decide⟩⟩
instance : IsFld Try.prog 113 1 1 1 := ⟨⟨_, _, Try.underlying113, rfl, rfl, Try.sizeOf3, by decide⟩⟩
instance : IsFld Try.prog 113 2 2 1 := ⟨⟨_, _, Try.underlying113, rfl, rfl, Try.sizeOf53, by decide⟩⟩
instance : IsVar Try.prog 114 true 3 := ⟨Try.isAgg114, Try.sizeOf114⟩
instance : IsNew Try.prog 114 [vlit (.pointer none), vlit (.int .i64 0), vlit (.slice none 0 0)] := ⟨⟨_, Try.zeroValue114, fun _ => .cons rfl (.cons rfl (.cons rfl (.nil)))⟩⟩
instance : IsStruct Try.prog 114 [(0, 1), (1, 1), (2, 1)] := ⟨⟨_, Try.underlying114, fun w => by simp [Try.sizeOf3, Try.sizeOf53, Try.sizeOf112]⟩⟩
instance : IsFld Try.prog 114 0 0 1 := ⟨⟨_, _, Try.underlying114, rfl, rfl, Try.sizeOf112, by decide⟩⟩
instance : IsFld Try.prog 114 1 1 1 := ⟨⟨_, _, Try.underlying114, rfl, rfl, Try.sizeOf3, by decide⟩⟩
instance : IsFld Try.prog 114 2 2 1 := ⟨⟨_, _, Try.underlying114, rfl, rfl, Try.sizeOf53, by decide⟩⟩
instance : IsVar Try.prog 115 false 1 := ⟨Try.isAgg115, Try.sizeOf115⟩
instance : IsNew Try.prog 115 [vlit (.map none)] := ⟨⟨_, Try.zeroValue115, fun _ => .cons rfl (.nil)⟩⟩
instance : IsMapI Try.prog 115 := ⟨⟨_, _, Try.underlying115, Try.underlying9, Try.zeroValue3⟩⟩
instance : IsVar Try.prog 116 true 5 := ⟨Try.isAgg116, Try.sizeOf116⟩
instance : IsNew Try.prog 116 [vlit (.int .i64 0), vlit (.slice none 0 0), vlit (.int .i64 0), vlit (.slice none 0 0), vlit (.map none)] := ⟨⟨_, Try.zeroValue116, fun _ => .cons rfl (.cons rfl (.cons rfl (.cons rfl (.cons rfl (.nil)))))⟩⟩
instance : IsStruct Try.prog 116 [(0, 2), (2, 1), (3, 1), (4, 1)] := ⟨⟨_, Try.underlying116, fun w => by simp [Try.sizeOf3, Try.sizeOf28, Try.sizeOf53, Try.sizeOf115]⟩⟩
instance : IsFld Try.prog 116 0 0 2 := ⟨⟨_, _, Try.underlying116, rfl, rfl, Try.sizeOf28, by decide⟩⟩
instance : IsFld Try.prog 116 1 2 1 := ⟨⟨_, _, Try.underlying116, rfl, rfl, Try.sizeOf3, by decide⟩⟩
instance : IsFld Try.prog 116 2 3 1 := ⟨⟨_, _, Try.underlying116, rfl, rfl, Try.sizeOf53, by decide⟩⟩
instance : IsFld Try.prog 116 3 4 1 := ⟨⟨_, _, Try.underlying116, rfl, rfl, Try.sizeOf115, by decide⟩⟩
instance : IsVar Try.prog 117 true 5 := ⟨Try.isAgg117, Try.sizeOf117⟩
instance : IsNew Try.prog 117 [vlit (.int .i64 0), vlit (.slice none 0 0), vlit (.int .i64 0), vlit (.slice none 0 0), vlit (.map none)] := ⟨⟨_, Try.zeroValue117, fun _ => .cons rfl (.cons rfl (.cons rfl (.cons rfl (.cons rfl (.nil)))))⟩⟩
instance : IsStruct Try.prog 117 [(0, 2), (2, 1), (3, 1), (4, 1)] := ⟨⟨_, Try.underlying117, fun w => by simp [Try.sizeOf3, Try.sizeOf28, Try.sizeOf53, Try.sizeOf115]⟩⟩
instance : IsFld Try.prog 117 0 0 2 := ⟨⟨_, _, Try.underlying117, rfl, rfl, Try.sizeOf28, by decide⟩⟩
instance : IsFld Try.prog 117 1 2 1 := ⟨⟨_, _, Try.underlying117, rfl, rfl, Try.sizeOf3, by decide⟩⟩
instance : IsFld Try.prog 117 2 3 1 := ⟨⟨_, _, Try.underlying117, rfl, rfl, Try.sizeOf53, by decide⟩⟩
instance : IsFld Try.prog 117 3 4 1 := ⟨⟨_, _, Try.underlying117, rfl, rfl, Try.sizeOf115, by decide⟩⟩
instance : IsVar Try.prog 118 false 1 := ⟨Try.isAgg118, Try.sizeOf118⟩
instance : IsNew Try.prog 118 [vlit (.nilFunc)] := ⟨⟨_, Try.zeroValue118, fun _ => .cons rfl (.nil)⟩⟩
instance : IsVar Try.prog 119 false 1 := ⟨Try.isAgg119, Try.sizeOf119⟩
instance : IsNew Try.prog 119 [vlit (.nilFunc)] := ⟨⟨_, Try.zeroValue119, fun _ => .cons rfl (.nil)⟩⟩
instance : IsVar Try.prog 120 false 1 := ⟨Try.isAgg120, Try.sizeOf120⟩
instance : IsNew Try.prog 120 [vlit (.nilFunc)] := ⟨⟨_, Try.zeroValue120, fun _ => .cons rfl (.nil)⟩⟩
instance : IsVar Try.prog 121 false 1 := ⟨Try.isAgg121, Try.sizeOf121⟩
instance : IsNew Try.prog 121 [vlit (.nilFunc)] := ⟨⟨_, Try.zeroValue121, fun _ => .cons rfl (.nil)⟩⟩
instance : IsVar Try.prog 122 false 1 := ⟨Try.isAgg122, Try.sizeOf122⟩
instance : IsNew Try.prog 122 [vlit (.nilFunc)] := ⟨⟨_, Try.zeroValue122, fun _ => .cons rfl (.nil)⟩⟩
instance : IsVar Try.prog 123 false 1 := ⟨Try.isAgg123, Try.sizeOf123⟩
instance : IsNew Try.prog 123 [vlit (.nilFunc)] := ⟨⟨_, Try.zeroValue123, fun _ => .cons rfl (.nil)⟩⟩
instance : IsVar Try.prog 124 false 1 := ⟨Try.isAgg124, Try.sizeOf124⟩
instance : IsNew Try.prog 124 [vlit (.nilFunc)] := ⟨⟨_, Try.zeroValue124, fun _ => .cons rfl (.nil)⟩⟩
instance : IsVar Try.prog 125 false 1 := ⟨Try.isAgg125, Try.sizeOf125⟩
instance : IsNew Try.prog 125 [vlit (.nilFunc)] := ⟨⟨_, Try.zeroValue125, fun _ => .cons rfl (.nil)⟩⟩
instance : IsVar Try.prog 126 false 1 := ⟨Try.isAgg126, Try.sizeOf126⟩
instance : IsNew Try.prog 126 [vlit (.nilFunc)] := ⟨⟨_, Try.zeroValue126, fun _ => .cons rfl (.nil)⟩⟩
instance : IsVar Try.prog 127 false 1 := ⟨Try.isAgg127, Try.sizeOf127⟩
instance : IsNew Try.prog 127 [vlit (.nilFunc)] := ⟨⟨_, Try.zeroValue127, fun _ => .cons rfl (.nil)⟩⟩
instance : IsVar Try.prog 128 false 1 := ⟨Try.isAgg128, Try.sizeOf128⟩
instance : IsNew Try.prog 128 [vlit (.nilFunc)] := ⟨⟨_, Try.zeroValue128, fun _ => .cons rfl (.nil)⟩⟩
instance : IsVar Try.prog 129 false 1 := ⟨Try.isAgg129, Try.sizeOf129⟩
instance : IsNew Try.prog 129 [vlit (.nilFunc)] := ⟨⟨_, Try.zeroValue129, fun _ => .cons rfl (.nil)⟩⟩
instance : IsVar Try.prog 130 false 1 := ⟨Try.isAgg130, Try.sizeOf130⟩
instance : IsNew Try.prog 130 [vlit (.nilFunc)] := ⟨⟨_, Try.zeroValue130, fun _ => .cons rfl (.nil)⟩⟩
instance : IsVar Try.prog 131 false 1 := ⟨Try.isAgg131, Try.sizeOf131⟩
instance : IsNew Try.prog 131 [vlit (.slice none 0 0)] := ⟨⟨_, Try.zeroValue131, fun _ => .cons rfl (.nil)⟩⟩
instance : IsSl Try.prog 131 4 1 := ⟨Try.underlying131, Try.sizeOf4⟩
instance : IsSlM Try.prog 131 4 1 1 (.bool false) := ⟨⟨Try.t4, Try.underlying131, by kernel_rfl, rfl, rfl, rfl, rfl, by decide⟩⟩
instance : IsVar Try.prog 132 false 1 := ⟨Try.isAgg132, Try.sizeOf132⟩
instance : IsNew Try.prog 132 [vlit (.nilFunc)] := ⟨⟨_, Try.zeroValue132, fun _ => .cons rfl (.nil)⟩⟩
instance : IsVar Try.prog 133 true 3 := ⟨Try.isAgg133, Try.sizeOf133⟩
instance : IsNew Try.prog 133 [vlit (.slice none 0 0), vlit (.slice none 0 0), vlit (.bool false)] := ⟨⟨_, Try.zeroValue133, fun _ => .cons rfl (.cons rfl (.cons rfl (.nil)))⟩⟩
instance : IsStruct Try.prog 133 [(0, 1), (1, 1), (2, 1)] := ⟨⟨_, Try.underlying133, fun w => by simp [Try.sizeOf4, Try.sizeOf53, Try.sizeOf81]⟩⟩
instance : IsFld Try.prog 133 0 0 1 := ⟨⟨_, _, Try.underlying133, rfl, rfl, Try.sizeOf53, by decide⟩⟩
instance : IsFld Try.prog 133 1 1 1 := ⟨⟨_, _, Try.underlying133, rfl, rfl, Try.sizeOf81, by decide⟩⟩
instance : IsFld Try.prog 133 2 2 1 := ⟨⟨_, _, Try.underlying133, rfl, rfl, Try.sizeOf4, by decide⟩⟩
instance : IsVar Try.prog 134 true 3 := ⟨Try.isAgg134, Try.sizeOf134⟩
instance : IsNew Try.prog 134 [vlit (.slice none 0 0), vlit (.slice none 0 0), vlit (.bool false)] := ⟨⟨_, Try.zeroValue134, fun _ => .cons rfl (.cons rfl (.cons rfl (.nil)))⟩⟩
instance : IsStruct Try.prog 134 [(0, 1), (1, 1), (2, 1)] := ⟨⟨_, Try.underlying134, fun w => by simp [Try.sizeOf4, Try.sizeOf53, Try.sizeOf81]⟩⟩
instance : IsFld Try.prog 134 0 0 1 := ⟨⟨_, _, Try.underlying134, rfl, rfl, Try.sizeOf53, by decide⟩⟩
instance : IsFld Try.prog 134 1 1 1 := ⟨⟨_, _, Try.underlying134, rfl, rfl, Try.sizeOf81, by decide⟩⟩
instance : IsFld Try.prog 134 2 2 1 := ⟨⟨_, _, Try.underlying134, rfl, rfl, Try.sizeOf4, by decide⟩⟩
instance : IsVar Try.prog 135 false 1 := ⟨Try.isAgg135, Try.sizeOf135⟩
instance : IsNew Try.prog 135 [vlit (.nilFunc)] := ⟨⟨_, Try.zeroValue135, fun _ => .cons rfl (.nil)⟩⟩
instance : IsVar Try.prog 136 false 1 := ⟨Try.isAgg136, Try.sizeOf136⟩
instance : IsNew Try.prog 136 [vlit (.nilFunc)] := ⟨⟨_, Try.zeroValue136, fun _ => .cons rfl (.nil)⟩⟩
instance : IsVar Try.prog 137 false 1 := ⟨Try.isAgg137, Try.sizeOf137⟩
instance : IsNew Try.prog 137 [vlit (.pointer none)] := ⟨⟨_, Try.zeroValue137, fun _ => .cons rfl (.nil)⟩⟩
instance : IsVar Try.prog 139 false 1 := ⟨Try.isAgg139, Try.sizeOf139⟩
instance : IsNew Try.prog 139 [vlit (.nilFunc)] := ⟨⟨_, Try.zeroValue139, fun _ => .cons rfl (.nil)⟩⟩
instance : IsVar Try.prog 140 false 1 := ⟨Try.isAgg140, Try.sizeOf140⟩
instance : IsNew Try.prog 140 [vlit (.map none)] := ⟨⟨_, Try.zeroValue140, fun _ => .cons rfl (.nil)⟩⟩
instance : IsSet Try.prog 140 := ⟨⟨_, _, Try.underlying140, Try.underlying9, Try.zeroValue4⟩⟩
instance : IsVar Try.prog 141 true 3 := ⟨Try.isAgg141, Try.sizeOf141⟩
instance : IsNew Try.prog 141 [vlit (.slice none 0 0), vlit (.slice none 0 0), vlit (.map none)] := ⟨⟨_, Try.zeroValue141, fun _ => .cons rfl (.cons rfl (.cons rfl (.nil)))⟩⟩
instance : IsStruct Try.prog 141 [(0, 1), (1, 1), (2, 1)] := ⟨⟨_, Try.underlying141, fun w => by simp [Try.sizeOf53, Try.sizeOf81, Try.sizeOf140]⟩⟩
instance : IsFld Try.prog 141 0 0 1 := ⟨⟨_, _, Try.underlying141, rfl, rfl, Try.sizeOf53, by decide⟩⟩
instance : IsFld Try.prog 141 1 1 1 := ⟨⟨_, _, Try.underlying141, rfl, rfl, Try.sizeOf81, by decide⟩⟩
instance : IsFld Try.prog 141 2 2 1 := ⟨⟨_, _, Try.underlying141, rfl, rfl, Try.sizeOf140, by decide⟩⟩
instance : IsVar Try.prog 142 true 3 := ⟨Try.isAgg142, Try.sizeOf142⟩
instance : IsNew Try.prog 142 [vlit (.slice none 0 0), vlit (.slice none 0 0), vlit (.map none)] := ⟨⟨_, Try.zeroValue142, fun _ => .cons rfl (.cons rfl (.cons rfl (.nil)))⟩⟩
instance : IsStruct Try.prog 142 [(0, 1), (1, 1), (2, 1)] := ⟨⟨_, Try.underlying142, fun w => by simp [Try.sizeOf53, Try.sizeOf81, Try.sizeOf140]⟩⟩
instance : IsFld Try.prog 142 0 0 1 := ⟨⟨_, _, Try.underlying142, rfl, rfl, Try.sizeOf53, by decide⟩⟩
instance : IsFld Try.prog 142 1 1 1 := ⟨⟨_, _, Try.underlying142, rfl, rfl, Try.sizeOf81, by decide⟩⟩
instance : IsFld Try.prog 142 2 2 1 := ⟨⟨_, _, Try.underlying142, rfl, rfl, Try.sizeOf140, by decide⟩⟩
instance : IsVar Try.prog 143 false 1 := ⟨Try.isAgg143, Try.sizeOf143⟩
instance : IsNew Try.prog 143 [vlit (.nilFunc)] := ⟨⟨_, Try.zeroValue143, fun _ => .cons rfl (.nil)⟩⟩
instance : IsVar Try.prog 144 false 1 := ⟨Try.isAgg144, Try.sizeOf144⟩
instance : IsNew Try.prog 144 [vlit (.nilFunc)] := ⟨⟨_, Try.zeroValue144, fun _ => .cons rfl (.nil)⟩⟩
instance : IsVar Try.prog 145 false 1 := ⟨Try.isAgg145, Try.sizeOf145⟩
instance : IsNew Try.prog 145 [vlit (.nilFunc)] := ⟨⟨_, Try.zeroValue145, fun _ => .cons rfl (.nil)⟩⟩
instance : IsVar Try.prog 146 false 1 := ⟨Try.isAgg146, Try.sizeOf146⟩
instance : IsNew Try.prog 146 [vlit (.nilFunc)] := ⟨⟨_, Try.zeroValue146, fun _ => .cons rfl (.nil)⟩⟩
instance : IsVar Try.prog 147 false 1 := ⟨Try.isAgg147, Try.sizeOf147⟩
instance : IsNew Try.prog 147 [vlit (.nilFunc)] := ⟨⟨_, Try.zeroValue147, fun _ => .cons rfl (.nil)⟩⟩
instance : IsVar Try.prog 148 false 1 := ⟨Try.isAgg148, Try.sizeOf148⟩
instance : IsNew Try.prog 148 [vlit (.nilFunc)] := ⟨⟨_, Try.zeroValue148, fun _ => .cons rfl (.nil)⟩⟩
instance : IsVar Try.prog 149 false 1 := ⟨Try.isAgg149, Try.sizeOf149⟩
instance : IsNew Try.prog 149 [vlit (.nilFunc)] := ⟨⟨_, Try.zeroValue149, fun _ => .cons rfl (.nil)⟩⟩
instance : IsVar Try.prog 150 false 1 := ⟨Try.isAgg150, Try.sizeOf150⟩
instance : IsNew Try.prog 150 [vlit (.nilFunc)] := ⟨⟨_, Try.zeroValue150, fun _ => .cons rfl (.nil)⟩⟩
instance : IsVar Try.prog 151 false 1 := ⟨Try.isAgg151, Try.sizeOf151⟩
instance : IsNew Try.prog 151 [vlit (.nilFunc)] := ⟨⟨_, Try.zeroValue151, fun _ => .cons rfl (.nil)⟩⟩
instance : IsVar Try.prog 152 false 1 := ⟨Try.isAgg152, Try.sizeOf152⟩
instance : IsNew Try.prog 152 [vlit (.nilFunc)] := ⟨⟨_, Try.zeroValue152, fun _ => .cons rfl (.nil)⟩⟩
instance : IsVar Try.prog 153 false 1 := ⟨Try.isAgg153, Try.sizeOf153⟩
instance : IsNew Try.prog 153 [vlit (.nilFunc)] := ⟨⟨_, Try.zeroValue153, fun _ => .cons rfl (.nil)⟩⟩
instance : IsVar Try.prog 154 false 1 := ⟨Try.isAgg154, Try.sizeOf154⟩
instance : IsNew Try.prog 154 [vlit (.nilFunc)] := ⟨⟨_, Try.zeroValue154, fun _ => .cons rfl (.nil)⟩⟩
instance : IsVar Try.prog 155 false 1 := ⟨Try.isAgg155, Try.sizeOf155⟩
instance : IsNew Try.prog 155 [vlit (.nilFunc)] := ⟨⟨_, Try.zeroValue155, fun _ => .cons rfl (.nil)⟩⟩
instance : IsVar Try.prog 156 false 1 := ⟨Try.isAgg156, Try.sizeOf156⟩
instance : IsNew Try.prog 156 [vlit (.nilFunc)] := ⟨⟨_, Try.zeroValue156, fun _ => .cons rfl (.nil)⟩⟩
instance : IsVar Try.prog 157 true 2 := ⟨Try.isAgg157, Try.sizeOf157⟩
instance : IsNew Try.prog 157 [vlit (.int .i64 0), vlit (.slice none 0 0)] := ⟨⟨_, Try.zeroValue157, fun _ => .cons rfl (.cons rfl (.nil))⟩⟩
instance : IsStruct Try.prog 157 [(0, 1), (1, 1)] := ⟨⟨_, Try.underlying157, fun w => by simp [Try.sizeOf3, Try.sizeOf35]⟩⟩
instance : IsFld Try.prog 157 0 0 1 := ⟨⟨_, _, Try.underlying157, rfl, rfl, Try.sizeOf3, by decide⟩⟩
instance : IsFld Try.prog 157 1 1 1 := ⟨⟨_, _, Try.underlying157, rfl, rfl, Try.sizeOf35, by decide⟩⟩
instance : IsVar Try.prog 158 true 2 := ⟨Try.isAgg158, Try.sizeOf158⟩
instance : IsNew Try.prog 158 [vlit (.int .i64 0), vlit (.slice none 0 0)] := ⟨⟨_, Try.zeroValue158, fun _ => .cons rfl (.cons rfl (.nil))⟩⟩
instance : IsStruct Try.prog 158 [(0, 1), (1, 1)] := ⟨⟨_, Try.underlying158, fun w => by simp [Try.sizeOf3, Try.sizeOf35]⟩⟩
instance : IsFld Try.prog 158 0 0 1 := ⟨⟨_, _, Try.underlying158, rfl, rfl, Try.sizeOf3, by decide⟩⟩
instance : IsFld Try.prog 158 1 1 1 := ⟨⟨_, _, Try.underlying158, rfl, rfl, Try.sizeOf35, by decide⟩⟩
instance : IsVar Try.prog 159 false 1 := ⟨Try.isAgg159, Try.sizeOf159⟩
instance : IsNew Try.prog 159 [vlit (.nilFunc)] := ⟨⟨_, Try.zeroValue159, fun _ => .cons rfl (.nil)⟩⟩
instance : IsVar Try.prog 160 true 2 := ⟨Try.isAgg160, Try.sizeOf160⟩
instance : IsNew Try.prog 160 [vlit (.int .i64 0), vlit (.slice none 0 0)] := ⟨⟨_, Try.zeroValue160, fun _ => .cons rfl (.cons rfl (.nil))⟩⟩
instance : IsStruct Try.prog 160 [(0, 1), (1, 1)] := ⟨⟨_, Try.underlying160, fun w => by simp [Try.sizeOf3, Try.sizeOf35]⟩⟩
instance : IsFld Try.prog 160 0 0 1 := ⟨⟨_, _, Try.underlying160, rfl, rfl, Try.sizeOf3, by decide⟩⟩
instance : IsFld Try.prog 160 1 1 1 := ⟨⟨_, _, Try.underlying160, rfl, rfl, Try.sizeOf35, by decide⟩⟩
instance : IsVar Try.prog 161 false 1 := ⟨Try.isAgg161, Try.sizeOf161⟩
instance : IsNew Try.prog 161 [vlit (.nilFunc)] := ⟨⟨_, Try.zeroValue161, fun _ => .cons rfl (.nil)⟩⟩
instance : IsVar Try.prog 162 false 1 := ⟨Try.isAgg162, Try.sizeOf162⟩
instance : IsNew Try.prog 162 [vlit (.nilFunc)] := ⟨⟨_, Try.zeroValue162, fun _ => .cons rfl (.nil)⟩⟩
instance : IsVar Try.prog 163 false 1 := ⟨Try.isAgg163, Try.sizeOf163⟩
instance : IsNew Try.prog 163 [vlit (.nilFunc)] := ⟨⟨_, Try.zeroValue163, fun _ => .cons rfl (.nil)⟩⟩
instance : IsVar Try.prog 164 false 1 := ⟨Try.isAgg164, Try.sizeOf164⟩
instance : IsNew Try.prog 164 [vlit (.nilFunc)] := ⟨⟨_, Try.zeroValue164, fun _ => .cons rfl (.nil)⟩⟩
instance : IsVar Try.prog 165 true 2 := ⟨Try.isAgg165, Try.sizeOf165⟩
instance : IsNew Try.prog 165 [vlit (.int .i64 0), vlit (.slice none 0 0)] := ⟨⟨_, Try.zeroValue165, fun _ => .cons rfl (.cons rfl (.nil))⟩⟩
instance : IsStruct Try.prog 165 [(0, 1), (1, 1)] := ⟨⟨_, Try.underlying165, fun w => by simp [Try.sizeOf3, Try.sizeOf53]⟩⟩
instance : IsFld Try.prog 165 0 0 1 := ⟨⟨_, _, Try.underlying165, rfl, rfl, Try.sizeOf3, by decide⟩⟩
instance : IsFld Try.prog 165 1 1 1 := ⟨⟨_, _, Try.underlying165, rfl, rfl, Try.sizeOf53, by decide⟩⟩
instance : IsVar Try.prog 166 false 1 := ⟨Try.isAgg166, Try.sizeOf166⟩
instance : IsNew Try.prog 166 [vlit (.nilFunc)] := ⟨⟨_, Try.zeroValue166, fun _ => .cons rfl (.nil)⟩⟩
instance : IsVar Try.prog 167 true 2 := ⟨Try.isAgg167, Try.sizeOf167⟩
instance : IsNew Try.prog 167 [vlit (.int .i64 0), vlit (.slice none 0 0)] := ⟨⟨_, Try.zeroValue167, fun _ => .cons rfl (.cons rfl (.nil))⟩⟩
instance : IsStruct Try.prog 167 [(0, 1), (1, 1)] := ⟨⟨_, Try.underlying167, fun w => by simp [Try.sizeOf3, Try.sizeOf35]⟩⟩
instance : IsFld Try.prog 167 0 0 1 := ⟨⟨_, _, Try.underlying167, rfl, rfl, Try.sizeOf3, by decide⟩⟩
instance : IsFld Try.prog 167 1 1 1 := ⟨⟨_, _, Try.underlying167, rfl, rfl, Try.sizeOf35, by decide⟩⟩
instance : IsVar Try.prog 168 true 2 := ⟨Try.isAgg168, Try.sizeOf168⟩
instance : IsNew Try.prog 168 [vlit (.int .i64 0), vlit (.slice none 0 0)] := ⟨⟨_, Try.zeroValue168, fun _ => .cons rfl (.cons rfl (.nil))⟩⟩
instance : IsStruct Try.prog 168 [(0, 1), (1, 1)] := ⟨⟨_, Try.underlying168, fun w => by simp [Try.sizeOf3, Try.sizeOf35]⟩⟩
instance : IsFld Try.prog 168 0 0 1 := ⟨⟨_, _, Try.underlying168, rfl, rfl, Try.sizeOf3, by decide⟩⟩
instance : IsFld Try.prog 168 1 1 1 := ⟨⟨_, _, Try.underlying168, rfl, rfl, Try.sizeOf35, by decide⟩⟩
instance : IsVar Try.prog 169 false 1 := ⟨Try.isAgg169, Try.sizeOf169⟩
instance : IsNew Try.prog 169 [vlit (.nilFunc)] := ⟨⟨_, Try.zeroValue169, fun _ => .cons rfl (.nil)⟩⟩
instance : IsVar Try.prog 170 false 1 := ⟨Try.isAgg170, Try.sizeOf170⟩
instance : IsNew Try.prog 170 [vlit (.nilFunc)] := ⟨⟨_, Try.zeroValue170, fun _ => .cons rfl (.nil)⟩⟩
instance : IsVar Try.prog 171 false 1 := ⟨Try.isAgg171, Try.sizeOf171⟩
instance : IsNew Try.prog 171 [vlit (.nilFunc)] := ⟨⟨_, Try.zeroValue171, fun _ => .cons rfl (.nil)⟩⟩
instance : IsVar Try.prog 172 false 1 := ⟨Try.isAgg172, Try.sizeOf172⟩
instance : IsNew Try.prog 172 [vlit (.nilFunc)] := ⟨⟨_, Try.zeroValue172, fun _ => .cons rfl (.nil)⟩⟩
instance : IsVar Try.prog 173 true 2 := ⟨Try.isAgg173, Try.sizeOf173⟩
instance : IsNew Try.prog 173 [vlit (.int .i64 0), vlit (.slice none 0 0)] := ⟨⟨_, Try.zeroValue173, fun _ => .cons rfl (.cons rfl (.nil))⟩⟩
instance : IsStruct Try.prog 173 [(0, 1), (1, 1)] := ⟨⟨_, Try.underlying173, fun w => by simp [Try.sizeOf3, Try.sizeOf35]⟩⟩
instance : IsFld Try.prog 173 0 0 1 := ⟨⟨_, _, Try.underlying173, rfl, rfl, Try.sizeOf3, by decide⟩⟩
instance : IsFld Try.prog 173 1 1 1 := ⟨⟨_, _, Try.underlying173, rfl, rfl, Try.sizeOf35, by decide⟩⟩
instance : IsVar Try.prog 174 false 1 := ⟨Try.isAgg174, Try.sizeOf174⟩
instance : IsNew Try.prog 174 [vlit (.nilFunc)] := ⟨⟨_, Try.zeroValue174, fun _ => .cons rfl (.nil)⟩⟩
instance : IsVar Try.prog 175 false 1 := ⟨Try.isAgg175, Try.sizeOf175⟩
instance : IsNew Try.prog 175 [vlit (.slice none 0 0)] := ⟨⟨_, Try.zeroValue175, fun _ => .cons rfl (.nil)⟩⟩
instance : IsSl Try.prog 175 140 1 := ⟨Try.underlying175, Try.sizeOf140⟩
instance : IsSlM Try.prog 175 140 1 8 (.map none) := ⟨⟨Try.t140, Try.underlying175, by kernel_rfl, rfl, rfl, rfl, rfl, by decide⟩⟩
instance : IsVar Try.prog 176 false 1 := ⟨Try.isAgg176, Try.sizeOf176⟩
instance : IsNew Try.prog 176 [vlit (.nilFunc)] := ⟨⟨_, Try.zeroValue176, fun _ => .cons rfl (.nil)⟩⟩
instance : IsVar Try.prog 177 false 1 := ⟨Try.isAgg177, Try.sizeOf177⟩
instance : IsNew Try.prog 177 [vlit (.nilFunc)] := ⟨⟨_, Try.zeroValue177, fun _ => .cons rfl (.nil)⟩⟩
instance : IsVar Try.prog 178 false 1 := ⟨Try.isAgg178, Try.sizeOf178⟩
instance : IsNew Try.prog 178 [vlit (.nilFunc)] := ⟨⟨_, Try.zeroValue178, fun _ => .cons rfl (.nil)⟩⟩
instance : IsVar Try.prog 179 false 1 := ⟨Try.isAgg179, Try.sizeOf179⟩
instance : IsNew Try.prog 179 [vlit (.nilFunc)] := ⟨⟨_, Try.zeroValue179, fun _ => .cons rfl (.nil)⟩⟩
instance : IsVar Try.prog 180 false 1 := ⟨Try.isAgg180, Try.sizeOf180⟩
instance : IsNew Try.prog 180 [vlit (.nilFunc)] := ⟨⟨_, Try.zeroValue180, fun _ => .cons rfl (.nil)⟩⟩
instance : IsVar Try.prog 181 true 2 := ⟨Try.isAgg181, Try.sizeOf181⟩
instance : IsNew Try.prog 181 [vlit (.int .i64 0), vlit (.slice none 0 0)] := ⟨⟨_, Try.zeroValue181, fun _ => .cons rfl (.cons rfl (.nil))⟩⟩
instance : IsStruct Try.prog 181 [(0, 1), (1, 1)] := ⟨⟨_, Try.underlying181, fun w => by simp [Try.sizeOf3, Try.sizeOf35]⟩⟩
instance : IsFld Try.prog 181 0 0 1 := ⟨⟨_, _, Try.underlying181, rfl, rfl, Try.sizeOf3, by decide⟩⟩
instance : IsFld Try.prog 181 1 1 1 := ⟨⟨_, _, Try.underlying181, rfl, rfl, Try.sizeOf35, by decide⟩⟩
instance : IsVar Try.prog 182 false 1 := ⟨Try.isAgg182, Try.sizeOf182⟩
instance : IsNew Try.prog 182 [vlit (.nilFunc)] := ⟨⟨_, Try.zeroValue182, fun _ => .cons rfl (.nil)⟩⟩
instance : IsVar Try.prog 183 false 1 := ⟨Try.isAgg183, Try.sizeOf183⟩
instance : IsNew Try.prog 183 [vlit (.nilFunc)] := ⟨⟨_, Try.zeroValue183, fun _ => .cons rfl (.nil)⟩⟩
instance : IsVar Try.prog 184 false 1 := ⟨Try.isAgg184, Try.sizeOf184⟩
instance : IsNew Try.prog 184 [vlit (.nilFunc)] := ⟨⟨_, Try.zeroValue184, fun _ => .cons rfl (.nil)⟩⟩
instance : IsVar Try.prog 186 false 1 := ⟨Try.isAgg186, Try.sizeOf186⟩
instance : IsNew Try.prog 186 [vlit (.nilFunc)] := ⟨⟨_, Try.zeroValue186, fun _ => .cons rfl (.nil)⟩⟩
instance : IsVar Try.prog 187 false 1 := ⟨Try.isAgg187, Try.sizeOf187⟩
instance : IsNew Try.prog 187 [vlit (.nilFunc)] := ⟨⟨_, Try.zeroValue187, fun _ => .cons rfl (.nil)⟩⟩
instance : IsVar Try.prog 188 false 1 := ⟨Try.isAgg188, Try.sizeOf188⟩
instance : IsNew Try.prog 188 [vlit (.nilFunc)] := ⟨⟨_, Try.zeroValue188, fun _ => .cons rfl (.nil)⟩⟩
instance : IsVar Try.prog 189 false 1 := ⟨Try.isAgg189, Try.sizeOf189⟩
instance : IsNew Try.prog 189 [vlit (.nilFunc)] := ⟨⟨_, Try.zeroValue189, fun _ => .cons rfl (.nil)⟩⟩
instance : IsVar Try.prog 190 false 1 := ⟨Try.isAgg190, Try.sizeOf190⟩
instance : IsNew Try.prog 190 [vlit (.nilFunc)] := ⟨⟨_, Try.zeroValue190, fun _ => .cons rfl (.nil)⟩⟩
instance : IsVar Try.prog 191 false 1 := ⟨Try.isAgg191, Try.sizeOf191⟩
instance : IsNew Try.prog 191 [vlit (.nilFunc)] := ⟨⟨_, Try.zeroValue191, fun _ => .cons rfl (.nil)⟩⟩
instance : IsVar Try.prog 192 false 1 := ⟨Try.isAgg192, Try.sizeOf192⟩
instance : IsNew Try.prog 192 [vlit (.nilFunc)] := ⟨⟨_, Try.zeroValue192, fun _ => .cons rfl (.nil)⟩⟩
instance : IsVar Try.prog 193 false 1 := ⟨Try.isAgg193, Try.sizeOf193⟩
instance : IsNew Try.prog 193 [vlit (.nilFunc)] := ⟨⟨_, Try.zeroValue193, fun _ => .cons rfl (.nil)⟩⟩
instance : IsVar Try.prog 194 false 1 := ⟨Try.isAgg194, Try.sizeOf194⟩
instance : IsNew Try.prog 194 [vlit (.nilFunc)] := ⟨⟨_, Try.zeroValue194, fun _ => .cons rfl (.nil)⟩⟩
instance : IsVar Try.prog 195 false 1 := ⟨Try.isAgg195, Try.sizeOf195⟩
instance : IsNew Try.prog 195 [vlit (.nilFunc)] := ⟨⟨_, Try.zeroValue195, fun _ => .cons rfl (.nil)⟩⟩
instance : IsVar Try.prog 196 false 1 := ⟨Try.isAgg196, Try.sizeOf196⟩
instance : IsNew Try.prog 196 [vlit (.nilFunc)] := ⟨⟨_, Try.zeroValue196, fun _ => .cons rfl (.nil)⟩⟩
instance : IsVar Try.prog 197 true 2 := ⟨Try.isAgg197, Try.sizeOf197⟩
instance : IsNew Try.prog 197 [vlit (.slice none 0 0), vlit (.slice none 0 0)] := ⟨⟨_, Try.zeroValue197, fun _ => .cons rfl (.cons rfl (.nil))⟩⟩
instance : IsStruct Try.prog 197 [(0, 1), (1, 1)] := ⟨⟨_, Try.underlying197, fun w => by simp [Try.sizeOf35]⟩⟩
instance : IsFld Try.prog 197 0 0 1 := ⟨⟨_, _, Try.underlying197, rfl, rfl, Try.sizeOf35, by decide⟩⟩
instance : IsFld Try.prog 197 1 1 1 := ⟨⟨_, _, Try.underlying197, rfl, rfl, Try.sizeOf35, by decide⟩⟩
instance : IsVar Try.prog 198 true 2 := ⟨Try.isAgg198, Try.sizeOf198⟩
instance : IsNew Try.prog 198 [vlit (.slice none 0 0), vlit (.slice none 0 0)] := ⟨⟨_, Try.zeroValue198, fun _ => .cons rfl (.cons rfl (.nil))⟩⟩
instance : IsStruct Try.prog 198 [(0, 1), (1, 1)] := ⟨⟨_, Try.underlying198, fun w => by simp [Try.sizeOf35]⟩⟩
instance : IsFld Try.prog 198 0 0 1 := ⟨⟨_, _, Try.underlying198, rfl, rfl, Try.sizeOf35, by decide⟩⟩
instance : IsFld Try.prog 198 1 1 1 := ⟨⟨_, _, Try.underlying198, rfl, rfl, Try.sizeOf35, by decide⟩⟩
instance : IsVar Try.prog 199 false 1 := ⟨Try.isAgg199, Try.sizeOf199⟩
instance : IsNew Try.prog 199 [vlit (.nilFunc)] := ⟨⟨_, Try.zeroValue199, fun _ => .cons rfl (.nil)⟩⟩
instance : IsVar Try.prog 200 true 2 := ⟨Try.isAgg200, Try.sizeOf200⟩
instance : IsNew Try.prog 200 [vlit (.slice none 0 0), vlit (.slice none 0 0)] := ⟨⟨_, Try.zeroValue200, fun _ => .cons rfl (.cons rfl (.nil))⟩⟩
instance : IsStruct Try.prog 200 [(0, 1), (1, 1)] := ⟨⟨_, Try.underlying200, fun w => by simp [Try.sizeOf35]⟩⟩
instance : IsFld Try.prog 200 0 0 1 := ⟨⟨_, _, Try.underlying200, rfl, rfl, Try.sizeOf35, by decide⟩⟩
instance : IsFld Try.prog 200 1 1 1 := ⟨⟨_, _, Try.underlying200, rfl, rfl, Try.sizeOf35, by decide⟩⟩
instance : IsVar Try.prog 201 false 1 := ⟨Try.isAgg201, Try.sizeOf201⟩
instance : IsNew Try.prog 201 [vlit (.nilFunc)] := ⟨⟨_, Try.zeroValue201, fun _ => .cons rfl (.nil)⟩⟩
instance : IsVar Try.prog 202 false 1 := ⟨Try.isAgg202, Try.sizeOf202⟩
instance : IsNew Try.prog 202 [vlit (.nilFunc)] := ⟨⟨_, Try.zeroValue202, fun _ => .cons rfl (.nil)⟩⟩
instance : IsVar Try.prog 203 false 1 := ⟨Try.isAgg203, Try.sizeOf203⟩
instance : IsNew Try.prog 203 [vlit (.nilFunc)] := ⟨⟨_, Try.zeroValue203, fun _ => .cons rfl (.nil)⟩⟩
instance : IsVar Try.prog 204 false 1 := ⟨Try.isAgg204, Try.sizeOf204⟩
instance : IsNew Try.prog 204 [vlit (.nilFunc)] := ⟨⟨_, Try.zeroValue204, fun _ => .cons rfl (.nil)⟩⟩
instance : IsVar Try.prog 205 false 1 := ⟨Try.isAgg205, Try.sizeOf205⟩
instance : IsNew Try.prog 205 [vlit (.nilFunc)] := ⟨⟨_, Try.zeroValue205, fun _ => .cons rfl (.nil)⟩⟩
instance : IsVar Try.prog 206 false 1 := ⟨Try.isAgg206, Try.sizeOf206⟩
instance : IsNew Try.prog 206 [vlit (.nilFunc)] := ⟨⟨_, Try.zeroValue206, fun _ => .cons rfl (.nil)⟩⟩
instance : IsVar Try.prog 207 false 1 := ⟨Try.isAgg207, Try.sizeOf207⟩
instance : IsNew Try.prog 207 [vlit (.nilFunc)] := ⟨⟨_, Try.zeroValue207, fun _ => .cons rfl (.nil)⟩⟩
instance : IsVar Try.prog 208 false 1 := ⟨Try.isAgg208, Try.sizeOf208⟩
instance : IsNew Try.prog 208 [vlit (.nilFunc)] := ⟨⟨_, Try.zeroValue208, fun _ => .cons rfl (.nil)⟩⟩
instance : IsVar Try.prog 209 false 1 := ⟨Try.isAgg209, Try.sizeOf209⟩
instance : IsNew Try.prog 209 [vlit (.nilFunc)] := ⟨⟨_, Try.zeroValue209, fun _ => .cons rfl (.nil)⟩⟩
instance : IsVar Try.prog 210 false 1 := ⟨Try.isAgg210, Try.sizeOf210⟩
instance : IsNew Try.prog 210 [vlit (.slice none 0 0)] := ⟨⟨_, Try.zeroValue210, fun _ => .cons rfl (.nil)⟩⟩
instance : IsSl Try.prog 210 5 1 := ⟨Try.underlying210, Try.sizeOf5⟩
instance : IsSlM Try.prog 210 5 1 1 (.int .u8 0) := ⟨⟨Try.t5, Try.underlying210, by kernel_rfl, rfl, rfl, rfl, rfl, by decide⟩⟩
instance : IsVar Try.prog 211 false 1 := ⟨Try.isAgg211, Try.sizeOf211⟩
instance : IsNew Try.prog 211 [vlit (.int .u64 0)] := ⟨⟨_, Try.zeroValue211, fun _ => .cons rfl (.nil)⟩⟩
instance : IsU64 Try.prog 211 := ⟨Try.underlying211⟩
instance : IsVar Try.prog 212 false 1 := ⟨Try.isAgg212, Try.sizeOf212⟩
instance : IsNew Try.prog 212 [vlit (.nilFunc)] := ⟨⟨_, Try.zeroValue212, fun _ => .cons rfl (.nil)⟩⟩
instance : IsVar Try.prog 213 false 1 := ⟨Try.isAgg213, Try.sizeOf213⟩
instance : IsNew Try.prog 213 [vlit (.nilFunc)] := ⟨⟨_, Try.zeroValue213, fun _ => .cons rfl (.nil)⟩⟩
instance : IsVar Try.prog 214 false 1 := ⟨Try.isAgg214, Try.sizeOf214⟩
instance : IsNew Try.prog 214 [vlit (.nilFunc)] := ⟨⟨_, Try.zeroValue214, fun _ => .cons rfl (.nil)⟩⟩
instance : IsVar Try.prog 215 false 1 := ⟨Try.isAgg215, Try.sizeOf215⟩
instance : IsNew Try.prog 215 [vlit (.nilFunc)] := ⟨⟨_, Try.zeroValue215, fun _ => .cons rfl (.nil)⟩⟩
instance : IsVar Try.prog 216 false 1 := ⟨Try.isAgg216, Try.sizeOf216⟩
instance : IsNew Try.prog 216 [vlit (.nilFunc)] := ⟨⟨_, Try.zeroValue216, fun _ => .cons rfl (.nil)⟩⟩
instance : IsVar Try.prog 217 false 1 := ⟨Try.isAgg217, Try.sizeOf217⟩
instance : IsNew Try.prog 217 [vlit (.pointer none)] := ⟨⟨_, Try.zeroValue217, fun _ => .cons rfl (.nil)⟩⟩
instance : IsVar Try.prog 218 true 9 := ⟨Try.isAgg218, Try.sizeOf218⟩
instance : IsNew Try.prog 218 [vlit (.int .i64 0), vlit (.slice none 0 0), vlit (.int .i64 0), vlit (.slice none 0 0), vlit (.bool false), vlit (.bool false), vlit (.int .i64 0), vlit (.int .i64 0), vlit (.slice none 0 0)] := ⟨⟨_, Try.zeroValue218, fun _ => .cons rfl (.cons rfl (.cons rfl (.cons rfl (.cons rfl (.cons rfl (.cons rfl (.cons rfl (.cons rfl (.nil)))))))))⟩⟩
instance : IsStruct Try.prog 218 [(0, 2), (2, 2), (4, 1), (5, 1), (6, 1), (7, 1), (8, 1)] := ⟨⟨_, Try.underlying218, fun w => by simp [Try.sizeOf3, Try.sizeOf4, Try.sizeOf28, Try.sizeOf53]⟩⟩
instance : IsFld Try.prog 218 0 0 2 := ⟨⟨_, _, Try.underlying218, rfl, rfl, Try.sizeOf28, by decide⟩⟩
instance : IsFld Try.prog 218 1 2 2 := ⟨⟨_, _, Try.underlying218, rfl, rfl, Try.sizeOf28, by decide⟩⟩
instance : IsFld Try.prog 218 2 4 1 := ⟨⟨_, _, Try.underlying218, rfl, rfl, Try.sizeOf4, by decide⟩⟩
instance : IsFld Try.prog 218 3 5 1 := ⟨⟨_, _, Try.underlying218, rfl, rfl, Try.sizeOf4, by decide⟩⟩
instance : IsFld Try.prog 218 4 6 1 := ⟨⟨_, _, Try.underlying218, rfl, rfl, Try.sizeOf3, by decide⟩⟩
instance : IsFld Try.prog 218 5 7 1 := ⟨⟨_, _, Try.underlying218, rfl, rfl, Try.sizeOf3, by decide⟩⟩
instance : IsFld Try.prog 218 6 8 1 := ⟨⟨_, _, Try.underlying218, rfl, rfl, Try.sizeOf53, by decide⟩⟩
instance : IsVar Try.prog 219 true 9 := ⟨Try.isAgg219, Try.sizeOf219⟩
instance : IsNew Try.prog 219 [vlit (.int .i64 0), vlit (.slice none 0 0), vlit (.int .i64 0), vlit (.slice none 0 0), vlit (.bool false), vlit (.bool false), vlit (.int .i64 0), vlit (.int .i64 0), vlit (.slice none 0 0)] := ⟨⟨_, Try.zeroValue219, fun _ => .cons rfl (.cons rfl (.cons rfl (.cons rfl (.cons rfl (.cons rfl (.cons rfl (.cons rfl (.cons rfl (.nil)))))))))⟩⟩
instance : IsStruct Try.prog 219 [(0, 2), (2, 2), (4, 1), (5, 1), (6, 1), (7, 1), (8, 1)] := ⟨⟨_, Try.underlying219, fun w => by simp [Try.sizeOf3, Try.sizeOf4, Try.sizeOf28, Try.sizeOf53]⟩⟩
instance : IsFld Try.prog 219 0 0 2 := ⟨⟨_, _, Try.underlying219, rfl, rfl, Try.sizeOf28, by decide⟩⟩
instance : IsFld Try.prog 219 1 2 2 := ⟨⟨_, _, Try.underlying219, rfl, rfl, Try.sizeOf28, by decide⟩⟩
instance : IsFld Try.prog 219 2 4 1 := ⟨⟨_, _, Try.underlying219, rfl, rfl, Try.sizeOf4, by decide⟩⟩
instance : IsFld Try.prog 219 3 5 1 := ⟨⟨_, _, Try.underlying219, rfl, rfl, Try.sizeOf4, by decide⟩⟩
instance : IsFld Try.prog 219 4 6 1 := ⟨⟨_, _, Try.underlying219, rfl, rfl, Try.sizeOf3, by decide⟩⟩
instance : IsFld Try.prog 219 5 7 1 := ⟨⟨_, _, Try.underlying219, rfl, rfl, Try.sizeOf3, by decide⟩⟩
instance : IsFld Try.prog 219 6 8 1 := ⟨⟨_, _, Try.underlying219, rfl, rfl, Try.sizeOf53, by decide⟩⟩
instance : IsVar Try.prog 220 false 1 := ⟨Try.isAgg220, Try.sizeOf220⟩
instance : IsNew Try.prog 220 [vlit (.nilFunc)] := ⟨⟨_, Try.zeroValue220, fun _ => .cons rfl (.nil)⟩⟩
instance : IsVar Try.prog 221 false 1 := ⟨Try.isAgg221, Try.sizeOf221⟩
instance : IsNew Try.prog 221 [vlit (.nilFunc)] := ⟨⟨_, Try.zeroValue221, fun _ => .cons rfl (.nil)⟩⟩
instance : IsVar Try.prog 222 false 1 := ⟨Try.isAgg222, Try.sizeOf222⟩
instance : IsNew Try.prog 222 [vlit (.nilFunc)] := ⟨⟨_, Try.zeroValue222, fun _ => .cons rfl (.nil)⟩⟩
instance : IsVar Try.prog 223 false 1 := ⟨Try.isAgg223, Try.sizeOf223⟩
instance : IsNew Try.prog 223 [vlit (.nilFunc)] := ⟨⟨_, Try.zeroValue223, fun _ => .cons rfl (.nil)⟩⟩
instance : IsVar Try.prog 224 false 1 := ⟨Try.isAgg224, Try.sizeOf224⟩
instance : IsNew Try.prog 224 [vlit (.nilFunc)] := ⟨⟨_, Try.zeroValue224, fun _ => .cons rfl (.nil)⟩⟩
instance : IsVar Try.prog 225 false 1 := ⟨Try.isAgg225, Try.sizeOf225⟩
instance : IsNew Try.prog 225 [vlit (.nilFunc)] := ⟨⟨_, Try.zeroValue225, fun _ => .cons rfl (.nil)⟩⟩
instance : IsVar Try.prog 226 false 1 := ⟨Try.isAgg226, Try.sizeOf226⟩
instance : IsNew Try.prog 226 [vlit (.nilFunc)] := ⟨⟨_, Try.zeroValue226, fun _ => .cons rfl (.nil)⟩⟩
instance : IsVar Try.prog 227 false 1 := ⟨Try.isAgg227, Try.sizeOf227⟩
instance : IsNew Try.prog 227 [vlit (.pointer none)] := ⟨⟨_, Try.zeroValue227, fun _ => .cons rfl (.nil)⟩⟩
instance : IsVar Try.prog 228 true 7 := ⟨Try.isAgg228, Try.sizeOf228⟩
instance : IsNew Try.prog 228 [vlit (.int .i64 0), vlit (.slice none 0 0), vlit (.int .i64 0), vlit (.slice none 0 0), vlit (.bool false), vlit (.int .i64 0), vlit (.nilFunc)] := ⟨⟨_, Try.zeroValue228, fun _ => .cons rfl (.cons rfl (.cons rfl (.cons rfl (.cons rfl (.cons rfl (.cons rfl (.nil)))))))⟩⟩
instance : IsStruct Try.prog 228 [(0, 2), (2, 2), (4, 1), (5, 1), (6, 1)] := ⟨⟨_, Try.underlying228, fun w => by simp [Try.sizeOf3, Try.sizeOf4, Try.sizeOf28, Try.sizeOf221]⟩⟩
instance : IsFld Try.prog 228 0 0 2 := ⟨⟨_, _, Try.underlying228, rfl, rfl, Try.sizeOf28, by decide⟩⟩
instance : IsFld Try.prog 228 1 2 2 := ⟨⟨_, _, Try.underlying228, rfl, rfl, Try.sizeOf28, by decide⟩⟩
instance : IsFld Try.prog 228 2 4 1 := ⟨⟨_, _, Try.underlying228, rfl, rfl, Try.sizeOf4, by decide⟩⟩
instance : IsFld Try.prog 228 3 5 1 := ⟨⟨_, _, Try.underlying228, rfl, rfl, Try.sizeOf3, by decide⟩⟩
instance : IsFld Try.prog 228 4 6 1 := ⟨⟨_, _, Try.underlying228, rfl, rfl, Try.sizeOf221, by decide⟩⟩
instance : IsVar Try.prog 229 true 7 := ⟨Try.isAgg229, Try.sizeOf229⟩
instance : IsNew Try.prog 229 [vlit (.int .i64 0), vlit (.slice none 0 0), vlit (.int .i64 0), vlit (.slice none 0 0), vlit (.bool false), vlit (.int .i64 0), vlit (.nilFunc)] := ⟨⟨_, Try.zeroValue229, fun _ => .cons rfl (.cons rfl (.cons rfl (.cons rfl (.cons rfl (.cons rfl (.cons rfl (.nil)))))))⟩⟩
instance : IsStruct Try.prog 229 [(0, 2), (2, 2), (4, 1), (5, 1), (6, 1)] := ⟨⟨_, Try.underlying229, fun w => by simp [Try.sizeOf3, Try.sizeOf4, Try.sizeOf28, Try.sizeOf221]⟩⟩
instance : IsFld Try.prog 229 0 0 2 := ⟨⟨_, _, Try.underlying229, rfl, rfl, Try.sizeOf28, by decide⟩⟩
instance : IsFld Try.prog 229 1 2 2 := ⟨⟨_, _, Try.underlying229, rfl, rfl, Try.sizeOf28, by decide⟩⟩
instance : IsFld Try.prog 229 2 4 1 := ⟨⟨_, _, Try.underlying229, rfl, rfl, Try.sizeOf4, by decide⟩⟩
instance : IsFld Try.prog 229 3 5 1 := ⟨⟨_, _, Try.underlying229, rfl, rfl, Try.sizeOf3, by decide⟩⟩
instance : IsFld Try.prog 229 4 6 1 := ⟨⟨_, _, Try.underlying229, rfl, rfl, Try.sizeOf221, by decide⟩⟩
instance : IsVar Try.prog 230 false 1 := ⟨Try.isAgg230, Try.sizeOf230⟩
instance : IsNew Try.prog 230 [vlit (.nilFunc)] := ⟨⟨_, Try.zeroValue230, fun _ => .cons rfl (.nil)⟩⟩
instance : IsVar Try.prog 232 false 1 := ⟨Try.isAgg232, Try.sizeOf232⟩
instance : IsNew Try.prog 232 [vlit (.int .u64 0)] := ⟨⟨_, Try.zeroValue232, fun _ => .cons rfl (.nil)⟩⟩
instance : IsU64 Try.prog 232 := ⟨Try.underlying232⟩
instance : IsVar Try.prog 233 true 3 := ⟨Try.isAgg233, Try.sizeOf233⟩
instance : IsNew Try.prog 233 [vlit (.pointer none), vlit (.pointer none), vlit (.int .u64 0)] := ⟨⟨_, Try.zeroValue233, fun _ => .cons rfl (.cons rfl (.cons rfl (.nil)))⟩⟩
instance : IsStruct Try.prog 233 [(0, 1), (1, 1), (2, 1)] := ⟨⟨_, Try.underlying233, fun w => by simp [Try.sizeOf17, Try.sizeOf231, Try.sizeOf232]⟩⟩
instance : IsFld Try.prog 233 0 0 1 := ⟨⟨_, _, Try.underlying233, rfl, rfl, Try.sizeOf17, by decide⟩⟩
instance : IsFld Try.prog 233 1 1 1 := ⟨⟨_, _, Try.underlying233, rfl, rfl, Try.sizeOf231, by decide⟩⟩
instance : IsFld Try.prog 233 2 2 1 := ⟨⟨_, _, Try.underlying233, rfl, rfl, Try.sizeOf232, by decide⟩⟩
instance : IsVar Try.prog 234 true 3 := ⟨Try.isAgg234, Try.sizeOf234⟩
instance : IsNew Try.prog 234 [vlit (.pointer none), vlit (.pointer none), vlit (.int .u64 0)] := ⟨⟨_, Try.zeroValue234, fun _ => .cons rfl (.cons rfl (.cons rfl (.nil)))⟩⟩
instance : IsStruct Try.prog 234 [(0, 1), (1, 1), (2, 1)] := ⟨⟨_, Try.underlying234, fun w => by simp [Try.sizeOf17, Try.sizeOf231, Try.sizeOf232]⟩⟩
instance : IsFld Try.prog 234 0 0 1 := ⟨⟨_, _, Try.underlying234, rfl, rfl, Try.sizeOf17, by decide⟩⟩
instance : IsFld Try.prog 234 1 1 1 := ⟨⟨_, _, Try.underlying234, rfl, rfl, Try.sizeOf231, by decide⟩⟩
instance : IsFld Try.prog 234 2 2 1 := ⟨⟨_, _, Try.underlying234, rfl, rfl, Try.sizeOf232, by decide⟩⟩
instance : IsVar Try.prog 235 false 1 := ⟨Try.isAgg235, Try.sizeOf235⟩
instance : IsNew Try.prog 235 [vlit (.nilFunc)] := ⟨⟨_, Try.zeroValue235, fun _ => .cons rfl (.nil)⟩⟩
instance : IsVar Try.prog 236 false 1 := ⟨Try.isAgg236, Try.sizeOf236⟩
instance : IsNew Try.prog 236 [vlit (.nilFunc)] := ⟨⟨_, Try.zeroValue236, fun _ => .cons rfl (.nil)⟩⟩
instance : IsVar Try.prog 237 false 1 := ⟨Try.isAgg237, Try.sizeOf237⟩
instance : IsNew Try.prog 237 [vlit (.nilFunc)] := ⟨⟨_, Try.zeroValue237, fun _ => .cons rfl (.nil)⟩⟩
instance : IsVar Try.prog 238 false 1 := ⟨Try.isAgg238, Try.sizeOf238⟩
instance : IsNew Try.prog 238 [vlit (.nilFunc)] := ⟨⟨_, Try.zeroValue238, fun _ => .cons rfl (.nil)⟩⟩
instance : IsVar Try.prog 239 true 2 := ⟨Try.isAgg239, Try.sizeOf239⟩
instance : IsNew Try.prog 239 [vlit (.nilFunc), vlit (.nilFunc)] := ⟨⟨_, Try.zeroValue239, fun _ => .cons rfl (.cons rfl (.nil))⟩⟩
instance : IsStruct Try.prog 239 [(0, 1), (1, 1)] := ⟨⟨_, Try.underlying239, fun w => by simp [Try.sizeOf194, Try.sizeOf236]⟩⟩
instance : IsFld Try.prog 239 0 0 1 := ⟨⟨_, _, Try.underlying239, rfl, rfl, Try.sizeOf194, by decide⟩⟩
instance : IsFld Try.prog 239 1 1 1 := ⟨⟨_, _, Try.underlying239, rfl, rfl, Try.sizeOf236, by decide⟩⟩
instance : IsVar Try.prog 240 true 2 := ⟨Try.isAgg240, Try.sizeOf240⟩
instance : IsNew Try.prog 240 [vlit (.nilFunc), vlit (.nilFunc)] := ⟨⟨_, Try.zeroValue240, fun _ => .cons rfl (.cons rfl (.nil))⟩⟩
instance : IsStruct Try.prog 240 [(0, 1), (1, 1)] := ⟨⟨_, Try.underlying240, fun w => by simp [Try.sizeOf194, Try.sizeOf236]⟩⟩
instance : IsFld Try.prog 240 0 0 1 := ⟨⟨_, _, Try.underlying240, rfl, rfl, Try.sizeOf194, by decide⟩⟩
instance : IsFld Try.prog 240 1 1 1 := ⟨⟨_, _, Try.underlying240, rfl, rfl, Try.sizeOf236, by decide⟩⟩
instance : IsVar Try.prog 241 false 1 := ⟨Try.isAgg241, Try.sizeOf241⟩
instance : IsNew Try.prog 241 [vlit (.nilFunc)] := ⟨⟨_, Try.zeroValue241, fun _ => .cons rfl (.nil)⟩⟩
instance : IsVar Try.prog 242 false 1 := ⟨Try.isAgg242, Try.sizeOf242⟩
instance : IsNew Try.prog 242 [vlit (.nilFunc)] := ⟨⟨_, Try.zeroValue242, fun _ => .cons rfl (.nil)⟩⟩
instance : IsVar Try.prog 243 true 1 := ⟨Try.isAgg243, Try.sizeOf243⟩
instance : IsNew Try.prog 243 [vlit (.pointer none)] := ⟨⟨_, Try.zeroValue243, fun _ => .cons rfl (.nil)⟩⟩
instance : IsStruct Try.prog 243 [(0, 1)] := ⟨⟨_, Try.underlying243, fun w => by simp [Try.sizeOf17]⟩⟩
instance : IsFld Try.prog 243 0 0 1 := ⟨⟨_, _, Try.underlying243, rfl, rfl, Try.sizeOf17, by decide⟩⟩
instance : IsVar Try.prog 244 true 1 := ⟨Try.isAgg244, Try.sizeOf244⟩
instance : IsNew Try.prog 244 [vlit (.pointer none)] := ⟨⟨_, Try.zeroValue244, fun _ => .cons rfl (.nil)⟩⟩
instance : IsStruct Try.prog 244 [(0, 1)] := ⟨⟨_, Try.underlying244, fun w => by simp [Try.sizeOf17]⟩⟩
instance : IsFld Try.prog 244 0 0 1 := ⟨⟨_, _, Try.underlying244, rfl, rfl, Try.sizeOf17, by decide⟩⟩
instance : IsVar Try.prog 245 false 1 := ⟨Try.isAgg245, Try.sizeOf245⟩
instance : IsNew Try.prog 245 [vlit (.pointer none)] := ⟨⟨_, Try.zeroValue245, fun _ => .cons rfl (.nil)⟩⟩
instance : IsVar Try.prog 246 false 1 := ⟨Try.isAgg246, Try.sizeOf246⟩
instance : IsNew Try.prog 246 [vlit (.nilFunc)] := ⟨⟨_, Try.zeroValue246, fun _ => .cons rfl (.nil)⟩⟩
instance : IsVar Try.prog 247 false 1 := ⟨Try.isAgg247, Try.sizeOf247⟩
instance : IsNew Try.prog 247 [vlit (.nilFunc)] := ⟨⟨_, Try.zeroValue247, fun _ => .cons rfl (.nil)⟩⟩
instance : IsVar Try.prog 248 false 1 := ⟨Try.isAgg248, Try.sizeOf248⟩
instance : IsNew Try.prog 248 [vlit (.nilFunc)] := ⟨⟨_, Try.zeroValue248, fun _ => .cons rfl (.nil)⟩⟩
instance : IsVar Try.prog 249 false 1 := ⟨Try.isAgg249, Try.sizeOf249⟩
instance : IsNew Try.prog 249 [vlit (.nilFunc)] := ⟨⟨_, Try.zeroValue249, fun _ => .cons rfl (.nil)⟩⟩
instance : IsVar Try.prog 250 false 1 := ⟨Try.isAgg250, Try.sizeOf250⟩
instance : IsNew Try.prog 250 [vlit (.nilFunc)] := ⟨⟨_, Try.zeroValue250, fun _ => .cons rfl (.nil)⟩⟩
instance : IsVar Try.prog 251 true 4 := ⟨Try.isAgg251, Try.sizeOf251⟩
instance : IsNew Try.prog 251 [vlit (.pointer none), vlit (.pointer none), vlit (.pointer none), vlit (.string .empty)] := ⟨⟨_, Try.zeroValue251, fun _ => .cons rfl (.cons rfl (.cons rfl (.cons rfl (.nil))))⟩⟩
instance : IsStruct Try.prog 251 [(0, 1), (1, 1), (2, 1), (3, 1)] := ⟨⟨_, Try.underlying251, fun w => by simp [Try.sizeOf9, Try.sizeOf17]⟩⟩
instance : IsFld Try.prog 251 0 0 1 := ⟨⟨_, _, Try.underlying251, rfl, rfl, Try.sizeOf17, by decide⟩⟩
instance : IsFld Try.prog 251 1 1 1 := ⟨⟨_, _, Try.underlying251, rfl, rfl, Try.sizeOf17, by decide⟩⟩
instance : IsFld Try.prog 251 2 2 1 := ⟨⟨_, _, Try.underlying251, rfl, rfl, Try.sizeOf17, by decide⟩⟩
instance : IsFld Try.prog 251 3 3 1 := ⟨⟨_, _, Try.underlying251, rfl, rfl, Try.sizeOf9, by decide⟩⟩
instance : IsVar Try.prog 252 true 4 := ⟨Try.isAgg252, Try.sizeOf252⟩
instance : IsNew Try.prog 252 [vlit (.pointer none), vlit (.pointer none), vlit (.pointer none), vlit (.string .empty)] := ⟨⟨_, Try.zeroValue252, fun _ => .cons rfl (.cons rfl (.cons rfl (.cons rfl (.nil))))⟩⟩
instance : IsStruct Try.prog 252 [(0, 1), (1, 1), (2, 1), (3, 1)] := ⟨⟨_, Try.underlying252, fun w => by simp [Try.sizeOf9, Try.sizeOf17]⟩⟩
instance : IsFld Try.prog 252 0 0 1 := ⟨⟨_, _, Try.underlying252, rfl, rfl, Try.sizeOf17, by decide⟩⟩
instance : IsFld Try.prog 252 1 1 1 := ⟨⟨_, _, Try.underlying252, rfl, rfl, Try.sizeOf17, by decide⟩⟩
instance : IsFld Try.prog 252 2 2 1 := ⟨⟨_, _, Try.underlying252, rfl, rfl, Try.sizeOf17, by decide⟩⟩
instance : IsFld Try.prog 252 3 3 1 := ⟨⟨_, _, Try.underlying252, rfl, rfl, Try.sizeOf9, by decide⟩⟩
instance : IsVar Try.prog 253 true 0 := ⟨Try.isAgg253, Try.sizeOf253⟩
instance : IsNew Try.prog 253 [] := ⟨⟨_, Try.zeroValue253, fun _ => .nil⟩⟩
instance : IsVar Try.prog 254 true 0 := ⟨Try.isAgg254, Try.sizeOf254⟩
instance : IsNew Try.prog 254 [] := ⟨⟨_, Try.zeroValue254, fun _ => .nil⟩⟩
instance : IsVar Try.prog 255 true 0 := ⟨Try.isAgg255, Try.sizeOf255⟩
instance : IsNew Try.prog 255 [] := ⟨⟨_, Try.zeroValue255, fun _ => .nil⟩⟩
instance : IsVar Try.prog 256 false 1 := ⟨Try.isAgg256, Try.sizeOf256⟩
instance : IsNew Try.prog 256 [vlit (.int .u32 0)] := ⟨⟨_, Try.zeroValue256, fun _ => .cons rfl (.nil)⟩⟩
instance : IsVar Try.prog 257 false 1 := ⟨Try.isAgg257, Try.sizeOf257⟩
instance : IsNew Try.prog 257 [vlit (.int .u8 0)] := ⟨⟨_, Try.zeroValue257, fun _ => .cons rfl (.nil)⟩⟩
instance : IsU8 Try.prog 257 := ⟨Try.underlying257⟩
instance : IsVar Try.prog 258 false 1 := ⟨Try.isAgg258, Try.sizeOf258⟩
instance : IsNew Try.prog 258 [vlit (.int .u8 0)] := ⟨⟨_, Try.zeroValue258, fun _ => .cons rfl (.nil)⟩⟩
instance : IsU8 Try.prog 258 := ⟨Try.underlying258⟩
instance : IsVar Try.prog 259 false 1 := ⟨Try.isAgg259, Try.sizeOf259⟩
instance : IsNew Try.prog 259 [vlit (.nilFunc)] := ⟨⟨_, Try.zeroValue259, fun _ => .cons rfl (.nil)⟩⟩
instance : IsVar Try.prog 260 false 1 := ⟨Try.isAgg260, Try.sizeOf260⟩
instance : IsNew Try.prog 260 [vlit (.pointer none)] := ⟨⟨_, Try.zeroValue260, fun _ => .cons rfl (.nil)⟩⟩
instance : IsVar Try.prog 261 false 1 := ⟨Try.isAgg261, Try.sizeOf261⟩
instance : IsNew Try.prog 261 [vlit (.int .i32 0)] := ⟨⟨_, Try.zeroValue261, fun _ => .cons rfl (.nil)⟩⟩
instance : IsVar Try.prog 262 false 1 := ⟨Try.isAgg262, Try.sizeOf262⟩
instance : IsNew Try.prog 262 [vlit (.int .i32 0)] := ⟨⟨_, Try.zeroValue262, fun _ => .cons rfl (.nil)⟩⟩
instance : IsVar Try.prog 263 true 11 := ⟨Try.isAgg263, Try.sizeOf263⟩
instance : IsNew Try.prog 263 [vlit (.int .u64 0), vlit (.int .u64 0), vlit (.int .u32 0), vlit (.int .u8 0), vlit (.int .u8 0), vlit (.int .u8 0), vlit (.int .u8 0), vlit (.nilFunc), vlit (.pointer none), vlit (.int .i32 0), vlit (.int .i32 0)] := ⟨⟨_, Try.zeroValue263, fun _ => .cons rfl (.cons rfl (.cons rfl (.cons rfl (.cons rfl (.cons rfl (.cons rfl (.cons rfl (.cons rfl (.cons rfl (.cons rfl (.nil)))))))))))⟩⟩
instance : IsStruct Try.prog 263 [(0, 1), (1, 1), (2, 1), (3, 1), (4, 1), (5, 1), (6, 1), (7, 1), (8, 1), (9, 1), (10, 1)] := ⟨⟨_, Try.underlying263, fun w => by simp [Try.sizeOf5, Try.sizeOf12, Try.sizeOf256, Try.sizeOf257, Try.sizeOf258, Try.sizeOf259, Try.sizeOf260, Try.sizeOf261, Try.sizeOf262]⟩⟩
instance : IsFld Try.prog 263 0 0 1 := ⟨⟨_, _, Try.underlying263, rfl, rfl, Try.sizeOf12, by decide⟩⟩
instance : IsFld Try.prog 263 1 1 1 := ⟨⟨_, _, Try.underlying263, rfl, rfl, Try.sizeOf12, by decide⟩⟩
instance : IsFld Try.prog 263 2 2 1 := ⟨⟨_, _, Try.underlying263, rfl, rfl, Try.sizeOf256, by decide⟩⟩
instance : IsFld Try.prog 263 3 3 1 := ⟨⟨_, _, Try.underlying263, rfl, rfl, Try.sizeOf257, by decide⟩⟩
instance : IsFld Try.prog 263 4 4 1 := ⟨⟨_, _, Try.underlying263, rfl, rfl, Try.sizeOf5, by decide⟩⟩
instance : IsFld Try.prog 263 5 5 1 := ⟨⟨_, _, Try.underlying263, rfl, rfl, Try.sizeOf5, by decide⟩⟩
instance : IsFld Try.prog 263 6 6 1 := ⟨⟨_, _, Try.underlying263, rfl, rfl, Try.sizeOf258, by decide⟩⟩
instance : IsFld Try.prog 263 7 7 1 := ⟨⟨_, _, Try.underlying263, rfl, rfl, Try.sizeOf259, by decide⟩⟩
instance : IsFld Try.prog 263 8 8 1 := ⟨⟨_, _, Try.underlying263, rfl, rfl, Try.sizeOf260, by decide⟩⟩
instance : IsFld Try.prog 263 9 9 1 := ⟨⟨_, _, Try.underlying263, rfl, rfl, Try.sizeOf261, by decide⟩⟩
instance : IsFld Try.prog 263 10 10 1 := ⟨⟨_, _, Try.underlying263, rfl, rfl, Try.sizeOf262, by decide⟩⟩
instance : IsVar Try.prog 264 true 11 := ⟨Try.isAgg264, Try.sizeOf264⟩
instance : IsNew Try.prog 264 [vlit (.int .u64 0), vlit (.int .u64 0), vlit (.int .u32 0), vlit (.int .u8 0), vlit (.int .u8 0), vlit (.int .u8 0), vlit (.int .u8 0), vlit (.nilFunc), vlit (.pointer none), vlit (.int .i32 0), vlit (.int .i32 0)] := ⟨⟨_, Try.zeroValue264, fun _ => .cons rfl (.cons rfl (.cons rfl (.cons rfl (.cons rfl (.cons rfl (.cons rfl (.cons rfl (.cons rfl (.cons rfl (.cons rfl (.nil)))))))))))⟩⟩
instance : IsStruct Try.prog 264 [(0, 1), (1, 1), (2, 1), (3, 1), (4, 1), (5, 1), (6, 1), (7, 1), (8, 1), (9, 1), (10, 1)] := ⟨⟨_, Try.underlying264, fun w => by simp [Try.sizeOf5, Try.sizeOf12, Try.sizeOf256, Try.sizeOf257, Try.sizeOf258, Try.sizeOf259, Try.sizeOf260, Try.sizeOf261, Try.sizeOf262]⟩⟩
instance : IsFld Try.prog 264 0 0 1 := ⟨⟨_, _, Try.underlying264, rfl, rfl, Try.sizeOf12, by decide⟩⟩
instance : IsFld Try.prog 264 1 1 1 := ⟨⟨_, _, Try.underlying264, rfl, rfl, Try.sizeOf12, by decide⟩⟩
instance : IsFld Try.prog 264 2 2 1 := ⟨⟨_, _, Try.underlying264, rfl, rfl, Try.sizeOf256, by decide⟩⟩
instance : IsFld Try.prog 264 3 3 1 := ⟨⟨_, _, Try.underlying264, rfl, rfl, Try.sizeOf257, by decide⟩⟩
instance : IsFld Try.prog 264 4 4 1 := ⟨⟨_, _, Try.underlying264, rfl, rfl, Try.sizeOf5, by decide⟩⟩
instance : IsFld Try.prog 264 5 5 1 := ⟨⟨_, _, Try.underlying264, rfl, rfl, Try.sizeOf5, by decide⟩⟩
instance : IsFld Try.prog 264 6 6 1 := ⟨⟨_, _, Try.underlying264, rfl, rfl, Try.sizeOf258, by decide⟩⟩
instance : IsFld Try.prog 264 7 7 1 := ⟨⟨_, _, Try.underlying264, rfl, rfl, Try.sizeOf259, by decide⟩⟩
instance : IsFld Try.prog 264 8 8 1 := ⟨⟨_, _, Try.underlying264, rfl, rfl, Try.sizeOf260, by decide⟩⟩
instance : IsFld Try.prog 264 9 9 1 := ⟨⟨_, _, Try.underlying264, rfl, rfl, Try.sizeOf261, by decide⟩⟩
instance : IsFld Try.prog 264 10 10 1 := ⟨⟨_, _, Try.underlying264, rfl, rfl, Try.sizeOf262, by decide⟩⟩
instance : IsVar Try.prog 265 true 2 := ⟨Try.isAgg265, Try.sizeOf265⟩
instance : IsNew Try.prog 265 [vlit (.string .empty), vlit (.int .u8 0)] := ⟨⟨_, Try.zeroValue265, fun _ => .cons rfl (.cons rfl (.nil))⟩⟩
instance : IsStruct Try.prog 265 [(0, 1), (1, 1)] := ⟨⟨_, Try.underlying265, fun w => by simp [Try.sizeOf9, Try.sizeOf258]⟩⟩
instance : IsFld Try.prog 265 0 0 1 := ⟨⟨_, _, Try.underlying265, rfl, rfl, Try.sizeOf9, by decide⟩⟩
instance : IsFld Try.prog 265 1 1 1 := ⟨⟨_, _, Try.underlying265, rfl, rfl, Try.sizeOf258, by decide⟩⟩
instance : IsVar Try.prog 266 true 2 := ⟨Try.isAgg266, Try.sizeOf266⟩
instance : IsNew Try.prog 266 [vlit (.string .empty), vlit (.int .u8 0)] := ⟨⟨_, Try.zeroValue266, fun _ => .cons rfl (.cons rfl (.nil))⟩⟩
instance : IsStruct Try.prog 266 [(0, 1), (1, 1)] := ⟨⟨_, Try.underlying266, fun w => by simp [Try.sizeOf9, Try.sizeOf258]⟩⟩
instance : IsFld Try.prog 266 0 0 1 := ⟨⟨_, _, Try.underlying266, rfl, rfl, Try.sizeOf9, by decide⟩⟩
instance : IsFld Try.prog 266 1 1 1 := ⟨⟨_, _, Try.underlying266, rfl, rfl, Try.sizeOf258, by decide⟩⟩
end Go.Proofs.Ytejeeokjjbiadaa
