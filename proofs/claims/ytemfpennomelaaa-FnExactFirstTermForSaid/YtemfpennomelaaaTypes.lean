/- The facts on the types of this translation, as class instances. No conditions. -/
import Derived.Test.YtemfpennomelaaaProg
import Derived.KernelRfl
import Derived.Test.YtemfpennomelaaaCoreZ
namespace Go.Proofs.Ytemfpennomelaaa
open Go Go.Proofs

instance : IsVar Try.prog 1 false 1 := ⟨Try.isAgg1, Try.sizeOf1⟩
instance : IsNew Try.prog 1 [vlit (.nilFunc)] := ⟨⟨_, Try.zeroValue1, fun _ => .cons rfl (.nil)⟩⟩
instance : IsVar Try.prog 2 false 1 := ⟨Try.isAgg2, Try.sizeOf2⟩
instance : IsNew Try.prog 2 [vlit (.int .i64 0)] := ⟨⟨_, Try.zeroValue2, fun _ => .cons rfl (.nil)⟩⟩
instance : IsI64 Try.prog 2 := ⟨Try.underlying2⟩
instance : IsVar Try.prog 3 false 1 := ⟨Try.isAgg3, Try.sizeOf3⟩
instance : IsNew Try.prog 3 [vlit (.int .i64 0)] := ⟨⟨_, Try.zeroValue3, fun _ => .cons rfl (.nil)⟩⟩
instance : IsI64 Try.prog 3 := ⟨Try.underlying3⟩
instance : IsVar Try.prog 4 false 1 := ⟨Try.isAgg4, Try.sizeOf4⟩
instance : IsNew Try.prog 4 [vlit (.bool false)] := ⟨⟨_, Try.zeroValue4, fun _ => .cons rfl (.nil)⟩⟩
instance : IsBool Try.prog 4 := ⟨Try.underlying4⟩
instance : IsVar Try.prog 5 false 1 := ⟨Try.isAgg5, Try.sizeOf5⟩
instance : IsNew Try.prog 5 [vlit (.int .u8 0)] := ⟨⟨_, Try.zeroValue5, fun _ => .cons rfl (.nil)⟩⟩
instance : IsU8 Try.prog 5 := ⟨Try.underlying5⟩
instance : IsVar Try.prog 6 false 1 := ⟨Try.isAgg6, Try.sizeOf6⟩
instance : IsNew Try.prog 6 [vlit (.int .u8 0)] := ⟨⟨_, Try.zeroValue6, fun _ => .cons rfl (.nil)⟩⟩
instance : IsU8 Try.prog 6 := ⟨Try.underlying6⟩
instance : IsVar Try.prog 7 true 4 := ⟨Try.isAgg7, Try.sizeOf7⟩
instance : IsNew Try.prog 7 [vlit (.int .i64 0), vlit (.int .i64 0), vlit (.bool false), vlit (.int .u8 0)] := ⟨⟨_, Try.zeroValue7, fun _ => .cons rfl (.cons rfl (.cons rfl (.cons rfl (.nil))))⟩⟩
instance : IsStruct Try.prog 7 [(0, 1), (1, 1), (2, 1), (3, 1)] := ⟨⟨_, Try.underlying7, fun w => by simp [Try.sizeOf2, Try.sizeOf3, Try.sizeOf4, Try.sizeOf6]⟩⟩
instance : IsFld Try.prog 7 0 0 1 := ⟨⟨_, _, Try.underlying7, rfl, rfl, Try.sizeOf2, by decide⟩⟩
instance : IsFld Try.prog 7 1 1 1 := ⟨⟨_, _, Try.underlying7, rfl, rfl, Try.sizeOf3, by decide⟩⟩
instance : IsFld Try.prog 7 2 2 1 := ⟨⟨_, _, Try.underlying7, rfl, rfl, Try.sizeOf4, by decide⟩⟩
instance : IsFld Try.prog 7 3 3 1 := ⟨⟨_, _, Try.underlying7, rfl, rfl, Try.sizeOf6, by decide⟩⟩
instance : IsVar Try.prog 8 true 4 := ⟨Try.isAgg8, Try.sizeOf8⟩
instance : IsNew Try.prog 8 [vlit (.int .i64 0), vlit (.int .i64 0), vlit (.bool false), vlit (.int .u8 0)] := ⟨⟨_, Try.zeroValue8, fun _ => .cons rfl (.cons rfl (.cons rfl (.cons rfl (.nil))))⟩⟩
instance : IsStruct Try.prog 8 [(0, 1), (1, 1), (2, 1), (3, 1)] := ⟨⟨_, Try.underlying8, fun w => by simp [Try.sizeOf2, Try.sizeOf3, Try.sizeOf4, Try.sizeOf6]⟩⟩
instance : IsFld Try.prog 8 0 0 1 := ⟨⟨_, _, Try.underlying8, rfl, rfl, Try.sizeOf2, by decide⟩⟩
instance : IsFld Try.prog 8 1 1 1 := ⟨⟨_, _, Try.underlying8, rfl, rfl, Try.sizeOf3, by decide⟩⟩
instance : IsFld Try.prog 8 2 2 1 := ⟨⟨_, _, Try.underlying8, rfl, rfl, Try.sizeOf4, by decide⟩⟩
instance : IsFld Try.prog 8 3 3 1 := ⟨⟨_, _, Try.underlying8, rfl, rfl, Try.sizeOf6, by decide⟩⟩
instance : IsVar Try.prog 9 false 1 := ⟨Try.isAgg9, Try.sizeOf9⟩
instance : IsNew Try.prog 9 [vlit (.string .empty)] := ⟨⟨_, Try.zeroValue9, fun _ => .cons rfl (.nil)⟩⟩
instance : IsStr Try.prog 9 := ⟨Try.underlying9⟩
instance : IsVar Try.prog 10 false 1 := ⟨Try.isAgg10, Try.sizeOf10⟩
instance : IsNew Try.prog 10 [vlit (.string .empty)] := ⟨⟨_, Try.zeroValue10, fun _ => .cons rfl (.nil)⟩⟩
instance : IsStr Try.prog 10 := ⟨Try.underlying10⟩
instance : IsVar Try.prog 11 false 1 := ⟨Try.isAgg11, Try.sizeOf11⟩
instance : IsNew Try.prog 11 [vlit (.string .empty)] := ⟨⟨_, Try.zeroValue11, fun _ => .cons rfl (.nil)⟩⟩
instance : IsStr Try.prog 11 := ⟨Try.underlying11⟩
instance : IsVar Try.prog 12 false 1 := ⟨Try.isAgg12, Try.sizeOf12⟩
instance : IsNew Try.prog 12 [vlit (.int .u64 0)] := ⟨⟨_, Try.zeroValue12, fun _ => .cons rfl (.nil)⟩⟩
instance : IsU64 Try.prog 12 := ⟨Try.underlying12⟩
instance : IsVar Try.prog 13 true 2 := ⟨Try.isAgg13, Try.sizeOf13⟩
instance : IsNew Try.prog 13 [vlit (.string .empty), vlit (.int .u64 0)] := ⟨⟨_, Try.zeroValue13, fun _ => .cons rfl (.cons rfl (.nil))⟩⟩
instance : IsStruct Try.prog 13 [(0, 1), (1, 1)] := ⟨⟨_, Try.underlying13, fun w => by simp [Try.sizeOf9, Try.sizeOf12]⟩⟩
instance : IsFld Try.prog 13 0 0 1 := ⟨⟨_, _, Try.underlying13, rfl, rfl, Try.sizeOf9, by decide⟩⟩
instance : IsFld Try.prog 13 1 1 1 := ⟨⟨_, _, Try.underlying13, rfl, rfl, Try.sizeOf12, by decide⟩⟩
instance : IsVar Try.prog 14 true 2 := ⟨Try.isAgg14, Try.sizeOf14⟩
instance : IsNew Try.prog 14 [vlit (.string .empty), vlit (.int .u64 0)] := ⟨⟨_, Try.zeroValue14, fun _ => .cons rfl (.cons rfl (.nil))⟩⟩
instance : IsStruct Try.prog 14 [(0, 1), (1, 1)] := ⟨⟨_, Try.underlying14, fun w => by simp [Try.sizeOf9, Try.sizeOf12]⟩⟩
instance : IsFld Try.prog 14 0 0 1 := ⟨⟨_, _, Try.underlying14, rfl, rfl, Try.sizeOf9, by decide⟩⟩
instance : IsFld Try.prog 14 1 1 1 := ⟨⟨_, _, Try.underlying14, rfl, rfl, Try.sizeOf12, by decide⟩⟩
instance : IsVar Try.prog 15 false 1 := ⟨Try.isAgg15, Try.sizeOf15⟩
instance : IsNew Try.prog 15 [vlit (.pointer none)] := ⟨⟨_, Try.zeroValue15, fun _ => .cons rfl (.nil)⟩⟩
instance : IsVar Try.prog 16 false 1 := ⟨Try.isAgg16, Try.sizeOf16⟩
instance : IsNew Try.prog 16 [vlit (.pointer none)] := ⟨⟨_, Try.zeroValue16, fun _ => .cons rfl (.nil)⟩⟩
instance : IsVar Try.prog 17 false 1 := ⟨Try.isAgg17, Try.sizeOf17⟩
instance : IsNew Try.prog 17 [vlit (.pointer none)] := ⟨⟨_, Try.zeroValue17, fun _ => .cons rfl (.nil)⟩⟩
instance : IsVar Try.prog 18 true 1 := ⟨Try.isAgg18, Try.sizeOf18⟩
instance : IsNew Try.prog 18 [vlit (.pointer none)] := ⟨⟨_, Try.zeroValue18, fun _ => .cons rfl (.nil)⟩⟩
instance : IsStruct Try.prog 18 [(0, 1)] := ⟨⟨_, Try.underlying18, fun w => by simp [Try.sizeOf17]⟩⟩
instance : IsFld Try.prog 18 0 0 1 := ⟨⟨_, _, Try.underlying18, rfl, rfl, Try.sizeOf17, by decide⟩⟩
instance : IsVar Try.prog 19 true 1 := ⟨Try.isAgg19, Try.sizeOf19⟩
instance : IsNew Try.prog 19 [vlit (.pointer none)] := ⟨⟨_, Try.zeroValue19, fun _ => .cons rfl (.nil)⟩⟩
instance : IsStruct Try.prog 19 [(0, 1)] := ⟨⟨_, Try.underlying19, fun w => by simp [Try.sizeOf17]⟩⟩
instance : IsFld Try.prog 19 0 0 1 := ⟨⟨_, _, Try.underlying19, rfl, rfl, Try.sizeOf17, by decide⟩⟩
instance : IsVar Try.prog 21 false 1 := ⟨Try.isAgg21, Try.sizeOf21⟩
instance : IsNew Try.prog 21 [vlit (.int .i32 0)] := ⟨⟨_, Try.zeroValue21, fun _ => .cons rfl (.nil)⟩⟩
instance : IsVar Try.prog 22 false 1 := ⟨Try.isAgg22, Try.sizeOf22⟩
instance : IsNew Try.prog 22 [vlit (.slice none 0 0)] := ⟨⟨_, Try.zeroValue22, fun _ => .cons rfl (.nil)⟩⟩
instance : IsSl Try.prog 22 63 2 := ⟨Try.underlying22, Try.sizeOf63⟩
instance : IsSlM Try.prog 22 63 2 32 (.agg #[.int .i64 0, .slice none 0 0]) := ⟨⟨Try.t63, Try.underlying22, by kernel_rfl, rfl, rfl, rfl, rfl, by decide⟩⟩
instance : IsVar Try.prog 23 true 2 := ⟨Try.isAgg23, Try.sizeOf23⟩
instance : IsNew Try.prog 23 [vlit (.int .i64 0), vlit (.slice none 0 0)] := ⟨⟨_, Try.zeroValue23, fun _ => .cons rfl (.cons rfl (.nil))⟩⟩
instance : IsStruct Try.prog 23 [(0, 1), (1, 1)] := ⟨⟨_, Try.underlying23, fun w => by simp [Try.sizeOf3, Try.sizeOf22]⟩⟩
instance : IsFld Try.prog 23 0 0 1 := ⟨⟨_, _, Try.underlying23, rfl, rfl, Try.sizeOf3, by decide⟩⟩
instance : IsFld Try.prog 23 1 1 1 := ⟨⟨_, _, Try.underlying23, rfl, rfl, Try.sizeOf22, by decide⟩⟩
instance : IsVar Try.prog 24 true 2 := ⟨Try.isAgg24, Try.sizeOf24⟩
instance : IsNew Try.prog 24 [vlit (.int .i64 0), vlit (.slice none 0 0)] := ⟨⟨_, Try.zeroValue24, fun _ => .cons rfl (.cons rfl (.nil))⟩⟩
instance : IsStruct Try.prog 24 [(0, 1), (1, 1)] := ⟨⟨_, Try.underlying24, fun w => by simp [Try.sizeOf3, Try.sizeOf22]⟩⟩
instance : IsFld Try.prog 24 0 0 1 := ⟨⟨_, _, Try.underlying24, rfl, rfl, Try.sizeOf3, by decide⟩⟩
instance : IsFld Try.prog 24 1 1 1 := ⟨⟨_, _, Try.underlying24, rfl, rfl, Try.sizeOf22, by decide⟩⟩
instance : IsVar Try.prog 25 false 1 := ⟨Try.isAgg25, Try.sizeOf25⟩
instance : IsNew Try.prog 25 [vlit (.slice none 0 0)] := ⟨⟨_, Try.zeroValue25, fun _ => .cons rfl (.nil)⟩⟩
instance : IsSl Try.prog 25 26 1 := ⟨Try.underlying25, Try.sizeOf26⟩
instance : IsSlM Try.prog 25 26 1 24 (.slice none 0 0) := ⟨⟨Try.t26, Try.underlying25, by kernel_rfl, rfl, rfl, rfl, rfl, by decide⟩⟩
instance : IsVar Try.prog 26 false 1 := ⟨Try.isAgg26, Try.sizeOf26⟩
instance : IsNew Try.prog 26 [vlit (.slice none 0 0)] := ⟨⟨_, Try.zeroValue26, fun _ => .cons rfl (.nil)⟩⟩
instance : IsSl Try.prog 26 3 1 := ⟨Try.underlying26, Try.sizeOf3⟩
instance : IsSlM Try.prog 26 3 1 8 (.int .i64 0) := ⟨⟨Try.t3, Try.underlying26, by kernel_rfl, rfl, rfl, rfl, rfl, by decide⟩⟩
instance : IsVar Try.prog 27 false 1 := ⟨Try.isAgg27, Try.sizeOf27⟩
instance : IsNew Try.prog 27 [vlit (.nilFunc)] := ⟨⟨_, Try.zeroValue27, fun _ => .cons rfl (.nil)⟩⟩
instance : IsVar Try.prog 28 false 1 := ⟨Try.isAgg28, Try.sizeOf28⟩
instance : IsNew Try.prog 28 [vlit (.nilFunc)] := ⟨⟨_, Try.zeroValue28, fun _ => .cons rfl (.nil)⟩⟩
instance : IsVar Try.prog 30 false 1 := ⟨Try.isAgg30, Try.sizeOf30⟩
instance : IsNew Try.prog 30 [vlit (.nilFunc)] := ⟨⟨_, Try.zeroValue30, fun _ => .cons rfl (.nil)⟩⟩
instance : IsVar Try.prog 31 false 1 := ⟨Try.isAgg31, Try.sizeOf31⟩
instance : IsNew Try.prog 31 [vlit (.slice none 0 0)] := ⟨⟨_, Try.zeroValue31, fun _ => .cons rfl (.nil)⟩⟩
instance : IsSl Try.prog 31 68 2 := ⟨Try.underlying31, Try.sizeOf68⟩
instance : IsSlM Try.prog 31 68 2 32 (.agg #[.int .i64 0, .slice none 0 0]) := ⟨⟨Try.t68, Try.underlying31, by kernel_rfl, rfl, rfl, rfl, rfl, by decide⟩⟩
instance : IsVar Try.prog 32 true 2 := ⟨Try.isAgg32, Try.sizeOf32⟩
instance : IsNew Try.prog 32 [vlit (.int .i64 0), vlit (.slice none 0 0)] := ⟨⟨_, Try.zeroValue32, fun _ => .cons rfl (.cons rfl (.nil))⟩⟩
instance : IsStruct Try.prog 32 [(0, 1), (1, 1)] := ⟨⟨_, Try.underlying32, fun w => by simp [Try.sizeOf3, Try.sizeOf31]⟩⟩
instance : IsFld Try.prog 32 0 0 1 := ⟨⟨_, _, Try.underlying32, rfl, rfl, Try.sizeOf3, by decide⟩⟩
instance : IsFld Try.prog 32 1 1 1 := ⟨⟨_, _, Try.underlying32, rfl, rfl, Try.sizeOf31, by decide⟩⟩
instance : IsVar Try.prog 33 true 2 := ⟨Try.isAgg33, Try.sizeOf33⟩
instance : IsNew Try.prog 33 [vlit (.int .i64 0), vlit (.slice none 0 0)] := ⟨⟨_, Try.zeroValue33, fun _ => .cons rfl (.cons rfl (.nil))⟩⟩
instance : IsStruct Try.prog 33 [(0, 1), (1, 1)] := ⟨⟨_, Try.underlying33, fun w => by simp [Try.sizeOf3, Try.sizeOf31]⟩⟩
instance : IsFld Try.prog 33 0 0 1 := ⟨⟨_, _, Try.underlying33, rfl, rfl, Try.sizeOf3, by decide⟩⟩
instance : IsFld Try.prog 33 1 1 1 := ⟨⟨_, _, Try.underlying33, rfl, rfl, Try.sizeOf31, by decide⟩⟩
instance : IsVar Try.prog 34 false 1 := ⟨Try.isAgg34, Try.sizeOf34⟩
instance : IsNew Try.prog 34 [vlit (.nilFunc)] := ⟨⟨_, Try.zeroValue34, fun _ => .cons rfl (.nil)⟩⟩
instance : IsVar Try.prog 35 false 1 := ⟨Try.isAgg35, Try.sizeOf35⟩
instance : IsNew Try.prog 35 [vlit (.nilFunc)] := ⟨⟨_, Try.zeroValue35, fun _ => .cons rfl (.nil)⟩⟩
instance : IsVar Try.prog 36 false 1 := ⟨Try.isAgg36, Try.sizeOf36⟩
instance : IsNew Try.prog 36 [vlit (.nilFunc)] := ⟨⟨_, Try.zeroValue36, fun _ => .cons rfl (.nil)⟩⟩
instance : IsVar Try.prog 37 false 1 := ⟨Try.isAgg37, Try.sizeOf37⟩
instance : IsNew Try.prog 37 [vlit (.nilFunc)] := ⟨⟨_, Try.zeroValue37, fun _ => .cons rfl (.nil)⟩⟩
instance : IsVar Try.prog 38 false 1 := ⟨Try.isAgg38, Try.sizeOf38⟩
instance : IsNew Try.prog 38 [vlit (.nilFunc)] := ⟨⟨_, Try.zeroValue38, fun _ => .cons rfl (.nil)⟩⟩
instance : IsVar Try.prog 39 false 1 := ⟨Try.isAgg39, Try.sizeOf39⟩
instance : IsNew Try.prog 39 [vlit (.nilFunc)] := ⟨⟨_, Try.zeroValue39, fun _ => .cons rfl (.nil)⟩⟩
instance : IsVar Try.prog 40 false 1 := ⟨Try.isAgg40, Try.sizeOf40⟩
instance : IsNew Try.prog 40 [vlit (.nilFunc)] := ⟨⟨_, Try.zeroValue40, fun _ => .cons rfl (.nil)⟩⟩
instance : IsVar Try.prog 41 false 1 := ⟨Try.isAgg41, Try.sizeOf41⟩
instance : IsNew Try.prog 41 [vlit (.nilFunc)] := ⟨⟨_, Try.zeroValue41, fun _ => .cons rfl (.nil)⟩⟩
instance : IsVar Try.prog 42 false 1 := ⟨Try.isAgg42, Try.sizeOf42⟩
instance : IsNew Try.prog 42 [vlit (.nilFunc)] := ⟨⟨_, Try.zeroValue42, fun _ => .cons rfl (.nil)⟩⟩
instance : IsVar Try.prog 43 false 1 := ⟨Try.isAgg43, Try.sizeOf43⟩
instance : IsNew Try.prog 43 [vlit (.nilFunc)] := ⟨⟨_, Try.zeroValue43, fun _ => .cons rfl (.nil)⟩⟩
instance : IsVar Try.prog 44 false 1 := ⟨Try.isAgg44, Try.sizeOf44⟩
instance : IsNew Try.prog 44 [vlit (.nilFunc)] := ⟨⟨_, Try.zeroValue44, fun _ => .cons rfl (.nil)⟩⟩
instance : IsVar Try.prog 45 false 1 := ⟨Try.isAgg45, Try.sizeOf45⟩
instance : IsNew Try.prog 45 [vlit (.nilFunc)] := ⟨⟨_, Try.zeroValue45, fun _ => .cons rfl (.nil)⟩⟩
instance : IsVar Try.prog 47 false 1 := ⟨Try.isAgg47, Try.sizeOf47⟩
instance : IsNew Try.prog 47 [vlit (.nilFunc)] := ⟨⟨_, Try.zeroValue47, fun _ => .cons rfl (.nil)⟩⟩
instance : IsVar Try.prog 49 false 1 := ⟨Try.isAgg49, Try.sizeOf49⟩
instance : IsNew Try.prog 49 [vlit (.nilFunc)] := ⟨⟨_, Try.zeroValue49, fun _ => .cons rfl (.nil)⟩⟩
instance : IsVar Try.prog 50 false 1 := ⟨Try.isAgg50, Try.sizeOf50⟩
instance : IsNew Try.prog 50 [vlit (.nilFunc)] := ⟨⟨_, Try.zeroValue50, fun _ => .cons rfl (.nil)⟩⟩
instance : IsVar Try.prog 51 false 1 := ⟨Try.isAgg51, Try.sizeOf51⟩
instance : IsNew Try.prog 51 [vlit (.nilFunc)] := ⟨⟨_, Try.zeroValue51, fun _ => .cons rfl (.nil)⟩⟩
instance : IsVar Try.prog 52 false 1 := ⟨Try.isAgg52, Try.sizeOf52⟩
instance : IsNew Try.prog 52 [vlit (.pointer none)] := ⟨⟨_, Try.zeroValue52, fun _ => .cons rfl (.nil)⟩⟩
instance : IsVar Try.prog 54 false 1 := ⟨Try.isAgg54, Try.sizeOf54⟩
instance : IsNew Try.prog 54 [vlit (.nilFunc)] := ⟨⟨_, Try.zeroValue54, fun _ => .cons rfl (.nil)⟩⟩
instance : IsVar Try.prog 55 false 1 := ⟨Try.isAgg55, Try.sizeOf55⟩
instance : IsNew Try.prog 55 [vlit (.map none)] := ⟨⟨_, Try.zeroValue55, fun _ => .cons rfl (.nil)⟩⟩
instance : IsMapI Try.prog 55 := ⟨⟨_, _, Try.underlying55, Try.underlying9, Try.zeroValue3⟩⟩
instance : IsVar Try.prog 56 true 5 := ⟨Try.isAgg56, Try.sizeOf56⟩
instance : IsNew Try.prog 56 [vlit (.int .i64 0), vlit (.slice none 0 0), vlit (.int .i64 0), vlit (.slice none 0 0), vlit (.map none)] := ⟨⟨_, Try.zeroValue56, fun _ => .cons rfl (.cons rfl (.cons rfl (.cons rfl (.cons rfl (.nil)))))⟩⟩
instance : IsStruct Try.prog 56 [(0, 2), (2, 1), (3, 1), (4, 1)] := ⟨⟨_, Try.underlying56, fun w => by simp [Try.sizeOf3, Try.sizeOf25, Try.sizeOf33, Try.sizeOf55]⟩⟩
instance : IsFld Try.prog 56 0 0 2 := ⟨⟨_, _, Try.underlying56, rfl, rfl, Try.sizeOf33, by decide⟩⟩
instance : IsFld Try.prog 56 1 2 1 := ⟨⟨_, _, Try.underlying56, rfl, rfl, Try.sizeOf3, by decide⟩⟩
instance : IsFld Try.prog 56 2 3 1 := ⟨⟨_, _, Try.underlying56, rfl, rfl, Try.sizeOf25, by decide⟩⟩
instance : IsFld Try.prog 56 3 4 1 := ⟨⟨_, _, Try.underlying56, rfl, rfl, Try.sizeOf55, by decide⟩⟩
instance : IsVar Try.prog 57 true 5 := ⟨Try.isAgg57, Try.sizeOf57⟩
instance : IsNew Try.prog 57 [vlit (.int .i64 0), vlit (.slice none 0 0), vlit (.int .i64 0), vlit (.slice none 0 0), vlit (.map none)] := ⟨⟨_, Try.zeroValue57, fun _ => .cons rfl (.cons rfl (.cons rfl (.cons rfl (.cons rfl (.nil)))))⟩⟩
instance : IsStruct Try.prog 57 [(0, 2), (2, 1), (3, 1), (4, 1)] := ⟨⟨_, Try.underlying57, fun w => by simp [Try.sizeOf3, Try.sizeOf25, Try.sizeOf33, Try.sizeOf55]⟩⟩
instance : IsFld Try.prog 57 0 0 2 := ⟨⟨_, _, Try.underlying57, rfl, rfl, Try.sizeOf33, by decide⟩⟩
instance : IsFld Try.prog 57 1 2 1 := ⟨⟨_, _, Try.underlying57, rfl, rfl, Try.sizeOf3, by decide⟩⟩
instance : IsFld Try.prog 57 2 3 1 := ⟨⟨_, _, Try.underlying57, rfl, rfl, Try.sizeOf25, by decide⟩⟩
instance : IsFld Try.prog 57 3 4 1 := ⟨⟨_, _, Try.underlying57, rfl, rfl, Try.sizeOf55, by decide⟩⟩
instance : IsVar Try.prog 58 false 1 := ⟨Try.isAgg58, Try.sizeOf58⟩
instance : IsNew Try.prog 58 [vlit (.nilFunc)] := ⟨⟨_, Try.zeroValue58, fun _ => .cons rfl (.nil)⟩⟩
instance : IsVar Try.prog 59 false 1 := ⟨Try.isAgg59, Try.sizeOf59⟩
instance : IsNew Try.prog 59 [vlit (.nilFunc)] := ⟨⟨_, Try.zeroValue59, fun _ => .cons rfl (.nil)⟩⟩
instance : IsVar Try.prog 60 false 1 := ⟨Try.isAgg60, Try.sizeOf60⟩
instance : IsNew Try.prog 60 [vlit (.nilFunc)] := ⟨⟨_, Try.zeroValue60, fun _ => .cons rfl (.nil)⟩⟩
instance : IsVar Try.prog 61 false 1 := ⟨Try.isAgg61, Try.sizeOf61⟩
instance : IsNew Try.prog 61 [vlit (.nilFunc)] := ⟨⟨_, Try.zeroValue61, fun _ => .cons rfl (.nil)⟩⟩
instance : IsVar Try.prog 62 true 2 := ⟨Try.isAgg62, Try.sizeOf62⟩
instance : IsNew Try.prog 62 [vlit (.int .i64 0), vlit (.slice none 0 0)] := ⟨⟨_, Try.zeroValue62, fun _ => .cons rfl (.cons rfl (.nil))⟩⟩
instance : IsStruct Try.prog 62 [(0, 1), (1, 1)] := ⟨⟨_, Try.underlying62, fun w => by simp [Try.sizeOf3, Try.sizeOf26]⟩⟩
instance : IsFld Try.prog 62 0 0 1 := ⟨⟨_, _, Try.underlying62, rfl, rfl, Try.sizeOf3, by decide⟩⟩
instance : IsFld Try.prog 62 1 1 1 := ⟨⟨_, _, Try.underlying62, rfl, rfl, Try.sizeOf26, by decide⟩⟩
instance : IsVar Try.prog 63 true 2 := ⟨Try.isAgg63, Try.sizeOf63⟩
instance : IsNew Try.prog 63 [vlit (.int .i64 0), vlit (.slice none 0 0)] := ⟨⟨_, Try.zeroValue63, fun _ => .cons rfl (.cons rfl (.nil))⟩⟩
instance : IsStruct Try.prog 63 [(0, 1), (1, 1)] := ⟨⟨_, Try.underlying63, fun w => by simp [Try.sizeOf3, Try.sizeOf26]⟩⟩
instance : IsFld Try.prog 63 0 0 1 := ⟨⟨_, _, Try.underlying63, rfl, rfl, Try.sizeOf3, by decide⟩⟩
instance : IsFld Try.prog 63 1 1 1 := ⟨⟨_, _, Try.underlying63, rfl, rfl, Try.sizeOf26, by decide⟩⟩
instance : IsVar Try.prog 64 false 1 := ⟨Try.isAgg64, Try.sizeOf64⟩
instance : IsNew Try.prog 64 [vlit (.nilFunc)] := ⟨⟨_, Try.zeroValue64, fun _ => .cons rfl (.nil)⟩⟩
instance : IsVar Try.prog 65 false 1 := ⟨Try.isAgg65, Try.sizeOf65⟩
instance : IsNew Try.prog 65 [vlit (.nilFunc)] := ⟨⟨_, Try.zeroValue65, fun _ => .cons rfl (.nil)⟩⟩
instance : IsVar Try.prog 66 false 1 := ⟨Try.isAgg66, Try.sizeOf66⟩
instance : IsNew Try.prog 66 [vlit (.nilFunc)] := ⟨⟨_, Try.zeroValue66, fun _ => .cons rfl (.nil)⟩⟩
instance : IsVar Try.prog 67 false 1 := ⟨Try.isAgg67, Try.sizeOf67⟩
instance : IsNew Try.prog 67 [vlit (.nilFunc)] := ⟨⟨_, Try.zeroValue67, fun _ => .cons rfl (.nil)⟩⟩
instance : IsVar Try.prog 68 true 2 := ⟨Try.isAgg68, Try.sizeOf68⟩
instance : IsNew Try.prog 68 [vlit (.int .i64 0), vlit (.slice none 0 0)] := ⟨⟨_, Try.zeroValue68, fun _ => .cons rfl (.cons rfl (.nil))⟩⟩
instance : IsStruct Try.prog 68 [(0, 1), (1, 1)] := ⟨⟨_, Try.underlying68, fun w => by simp [Try.sizeOf3, Try.sizeOf26]⟩⟩
instance : IsFld Try.prog 68 0 0 1 := ⟨⟨_, _, Try.underlying68, rfl, rfl, Try.sizeOf3, by decide⟩⟩
instance : IsFld Try.prog 68 1 1 1 := ⟨⟨_, _, Try.underlying68, rfl, rfl, Try.sizeOf26, by decide⟩⟩
instance : IsVar Try.prog 69 false 1 := ⟨Try.isAgg69, Try.sizeOf69⟩
instance : IsNew Try.prog 69 [vlit (.nilFunc)] := ⟨⟨_, Try.zeroValue69, fun _ => .cons rfl (.nil)⟩⟩
instance : IsVar Try.prog 70 false 1 := ⟨Try.isAgg70, Try.sizeOf70⟩
instance : IsNew Try.prog 70 [vlit (.nilFunc)] := ⟨⟨_, Try.zeroValue70, fun _ => .cons rfl (.nil)⟩⟩
instance : IsVar Try.prog 71 false 1 := ⟨Try.isAgg71, Try.sizeOf71⟩
instance : IsNew Try.prog 71 [vlit (.nilFunc)] := ⟨⟨_, Try.zeroValue71, fun _ => .cons rfl (.nil)⟩⟩
instance : IsVar Try.prog 72 false 1 := ⟨Try.isAgg72, Try.sizeOf72⟩
instance : IsNew Try.prog 72 [vlit (.nilFunc)] := ⟨⟨_, Try.zeroValue72, fun _ => .cons rfl (.nil)⟩⟩
instance : IsVar Try.prog 73 false 1 := ⟨Try.isAgg73, Try.sizeOf73⟩
instance : IsNew Try.prog 73 [vlit (.slice none 0 0)] := ⟨⟨_, Try.zeroValue73, fun _ => .cons rfl (.nil)⟩⟩
instance : IsSl Try.prog 73 4 1 := ⟨Try.underlying73, Try.sizeOf4⟩
instance : IsSlM Try.prog 73 4 1 1 (.bool false) := ⟨⟨Try.t4, Try.underlying73, by kernel_rfl, rfl, rfl, rfl, rfl, by decide⟩⟩
instance : IsVar Try.prog 74 false 1 := ⟨Try.isAgg74, Try.sizeOf74⟩
instance : IsNew Try.prog 74 [vlit (.nilFunc)] := ⟨⟨_, Try.zeroValue74, fun _ => .cons rfl (.nil)⟩⟩
instance : IsVar Try.prog 75 false 1 := ⟨Try.isAgg75, Try.sizeOf75⟩
instance : IsNew Try.prog 75 [vlit (.nilFunc)] := ⟨⟨_, Try.zeroValue75, fun _ => .cons rfl (.nil)⟩⟩
instance : IsVar Try.prog 76 false 1 := ⟨Try.isAgg76, Try.sizeOf76⟩
instance : IsNew Try.prog 76 [vlit (.nilFunc)] := ⟨⟨_, Try.zeroValue76, fun _ => .cons rfl (.nil)⟩⟩
instance : IsVar Try.prog 77 false 1 := ⟨Try.isAgg77, Try.sizeOf77⟩
instance : IsNew Try.prog 77 [vlit (.nilFunc)] := ⟨⟨_, Try.zeroValue77, fun _ => .cons rfl (.nil)⟩⟩
instance : IsVar Try.prog 78 false 1 := ⟨Try.isAgg78, Try.sizeOf78⟩
instance : IsNew Try.prog 78 [vlit (.nilFunc)] := ⟨⟨_, Try.zeroValue78, fun _ => .cons rfl (.nil)⟩⟩
instance : IsVar Try.prog 79 false 1 := ⟨Try.isAgg79, Try.sizeOf79⟩
instance : IsNew Try.prog 79 [vlit (.slice none 0 0)] := ⟨⟨_, Try.zeroValue79, fun _ => .cons rfl (.nil)⟩⟩
instance : IsSl Try.prog 79 5 1 := ⟨Try.underlying79, Try.sizeOf5⟩
instance : IsSlM Try.prog 79 5 1 1 (.int .u8 0) := ⟨⟨Try.t5, Try.underlying79, by kernel_rfl, rfl, rfl, rfl, rfl, by decide⟩⟩
instance : IsVar Try.prog 80 false 1 := ⟨Try.isAgg80, Try.sizeOf80⟩
instance : IsNew Try.prog 80 [vlit (.int .u64 0)] := ⟨⟨_, Try.zeroValue80, fun _ => .cons rfl (.nil)⟩⟩
instance : IsU64 Try.prog 80 := ⟨Try.underlying80⟩
instance : IsVar Try.prog 81 false 1 := ⟨Try.isAgg81, Try.sizeOf81⟩
instance : IsNew Try.prog 81 [vlit (.nilFunc)] := ⟨⟨_, Try.zeroValue81, fun _ => .cons rfl (.nil)⟩⟩
instance : IsVar Try.prog 82 false 1 := ⟨Try.isAgg82, Try.sizeOf82⟩
instance : IsNew Try.prog 82 [vlit (.nilFunc)] := ⟨⟨_, Try.zeroValue82, fun _ => .cons rfl (.nil)⟩⟩
instance : IsVar Try.prog 83 false 1 := ⟨Try.isAgg83, Try.sizeOf83⟩
instance : IsNew Try.prog 83 [vlit (.nilFunc)] := ⟨⟨_, Try.zeroValue83, fun _ => .cons rfl (.nil)⟩⟩
instance : IsVar Try.prog 84 false 1 := ⟨Try.isAgg84, Try.sizeOf84⟩
instance : IsNew Try.prog 84 [vlit (.nilFunc)] := ⟨⟨_, Try.zeroValue84, fun _ => .cons rfl (.nil)⟩⟩
instance : IsVar Try.prog 85 false 1 := ⟨Try.isAgg85, Try.sizeOf85⟩
instance : IsNew Try.prog 85 [vlit (.nilFunc)] := ⟨⟨_, Try.zeroValue85, fun _ => .cons rfl (.nil)⟩⟩
instance : IsVar Try.prog 86 false 1 := ⟨Try.isAgg86, Try.sizeOf86⟩
instance : IsNew Try.prog 86 [vlit (.nilFunc)] := ⟨⟨_, Try.zeroValue86, fun _ => .cons rfl (.nil)⟩⟩
instance : IsVar Try.prog 87 false 1 := ⟨Try.isAgg87, Try.sizeOf87⟩
instance : IsNew Try.prog 87 [vlit (.nilFunc)] := ⟨⟨_, Try.zeroValue87, fun _ => .cons rfl (.nil)⟩⟩
instance : IsVar Try.prog 88 false 1 := ⟨Try.isAgg88, Try.sizeOf88⟩
instance : IsNew Try.prog 88 [vlit (.nilFunc)] := ⟨⟨_, Try.zeroValue88, fun _ => .cons rfl (.nil)⟩⟩
instance : IsVar Try.prog 89 false 1 := ⟨Try.isAgg89, Try.sizeOf89⟩
instance : IsNew Try.prog 89 [vlit (.nilFunc)] := ⟨⟨_, Try.zeroValue89, fun _ => .cons rfl (.nil)⟩⟩
instance : IsVar Try.prog 90 false 1 := ⟨Try.isAgg90, Try.sizeOf90⟩
instance : IsNew Try.prog 90 [vlit (.nilFunc)] := ⟨⟨_, Try.zeroValue90, fun _ => .cons rfl (.nil)⟩⟩
instance : IsVar Try.prog 91 false 1 := ⟨Try.isAgg91, Try.sizeOf91⟩
instance : IsNew Try.prog 91 [vlit (.nilFunc)] := ⟨⟨_, Try.zeroValue91, fun _ => .cons rfl (.nil)⟩⟩
instance : IsVar Try.prog 92 true 4 := ⟨Try.isAgg92, Try.sizeOf92⟩
instance : IsNew Try.prog 92 [vlit (.pointer none), vlit (.pointer none), vlit (.pointer none), vlit (.string .empty)] := ⟨⟨_, Try.zeroValue92, fun _ => .cons rfl (.cons rfl (.cons rfl (.cons rfl (.nil))))⟩⟩
instance : IsStruct Try.prog 92 [(0, 1), (1, 1), (2, 1), (3, 1)] := ⟨⟨_, Try.underlying92, fun w => by simp [Try.sizeOf9, Try.sizeOf17]⟩⟩
instance : IsFld Try.prog 92 0 0 1 := ⟨⟨_, _, Try.underlying92, rfl, rfl, Try.sizeOf17, by decide⟩⟩
instance : IsFld Try.prog 92 1 1 1 := ⟨⟨_, _, Try.underlying92, rfl, rfl, Try.sizeOf17, by decide⟩⟩
instance : IsFld Try.prog 92 2 2 1 := ⟨⟨_, _, Try.underlying92, rfl, rfl, Try.sizeOf17, by decide⟩⟩
instance : IsFld Try.prog 92 3 3 1 := ⟨⟨_, _, Try.underlying92, rfl, rfl, Try.sizeOf9, by decide⟩⟩
instance : IsVar Try.prog 93 true 4 := ⟨Try.isAgg93, Try.sizeOf93⟩
instance : IsNew Try.prog 93 [vlit (.pointer none), vlit (.pointer none), vlit (.pointer none), vlit (.string .empty)] := ⟨⟨_, Try.zeroValue93, fun _ => .cons rfl (.cons rfl (.cons rfl (.cons rfl (.nil))))⟩⟩
instance : IsStruct Try.prog 93 [(0, 1), (1, 1), (2, 1), (3, 1)] := ⟨⟨_, Try.underlying93, fun w => by simp [Try.sizeOf9, Try.sizeOf17]⟩⟩
instance : IsFld Try.prog 93 0 0 1 := ⟨⟨_, _, Try.underlying93, rfl, rfl, Try.sizeOf17, by decide⟩⟩
instance : IsFld Try.prog 93 1 1 1 := ⟨⟨_, _, Try.underlying93, rfl, rfl, Try.sizeOf17, by decide⟩⟩
instance : IsFld Try.prog 93 2 2 1 := ⟨⟨_, _, Try.underlying93, rfl, rfl, Try.sizeOf17, by decide⟩⟩
instance : IsFld Try.prog 93 3 3 1 := ⟨⟨_, _, Try.underlying93, rfl, rfl, Try.sizeOf9, by decide⟩⟩
instance : IsVar Try.prog 94 true 0 := ⟨Try.isAgg94, Try.sizeOf94⟩
instance : IsNew Try.prog 94 [] := ⟨⟨_, Try.zeroValue94, fun _ => .nil⟩⟩
instance : IsVar Try.prog 95 true 0 := ⟨Try.isAgg95, Try.sizeOf95⟩
instance : IsNew Try.prog 95 [] := ⟨⟨_, Try.zeroValue95, fun _ => .nil⟩⟩
instance : IsVar Try.prog 96 true 0 := ⟨Try.isAgg96, Try.sizeOf96⟩
instance : IsNew Try.prog 96 [] := ⟨⟨_, Try.zeroValue96, fun _ => .nil⟩⟩
instance : IsVar Try.prog 97 false 1 := ⟨Try.isAgg97, Try.sizeOf97⟩
instance : IsNew Try.prog 97 [vlit (.nilFunc)] := ⟨⟨_, Try.zeroValue97, fun _ => .cons rfl (.nil)⟩⟩
instance : IsVar Try.prog 98 false 1 := ⟨Try.isAgg98, Try.sizeOf98⟩
instance : IsNew Try.prog 98 [vlit (.int .u32 0)] := ⟨⟨_, Try.zeroValue98, fun _ => .cons rfl (.nil)⟩⟩
instance : IsVar Try.prog 99 false 1 := ⟨Try.isAgg99, Try.sizeOf99⟩
instance : IsNew Try.prog 99 [vlit (.int .u8 0)] := ⟨⟨_, Try.zeroValue99, fun _ => .cons rfl (.nil)⟩⟩
instance : IsU8 Try.prog 99 := ⟨Try.underlying99⟩
instance : IsVar Try.prog 100 false 1 := ⟨Try.isAgg100, Try.sizeOf100⟩
instance : IsNew Try.prog 100 [vlit (.int .u8 0)] := ⟨⟨_, Try.zeroValue100, fun _ => .cons rfl (.nil)⟩⟩
instance : IsU8 Try.prog 100 := ⟨Try.underlying100⟩
instance : IsVar Try.prog 101 false 1 := ⟨Try.isAgg101, Try.sizeOf101⟩
instance : IsNew Try.prog 101 [vlit (.nilFunc)] := ⟨⟨_, Try.zeroValue101, fun _ => .cons rfl (.nil)⟩⟩
instance : IsVar Try.prog 102 false 1 := ⟨Try.isAgg102, Try.sizeOf102⟩
instance : IsNew Try.prog 102 [vlit (.pointer none)] := ⟨⟨_, Try.zeroValue102, fun _ => .cons rfl (.nil)⟩⟩
instance : IsVar Try.prog 103 false 1 := ⟨Try.isAgg103, Try.sizeOf103⟩
instance : IsNew Try.prog 103 [vlit (.int .i32 0)] := ⟨⟨_, Try.zeroValue103, fun _ => .cons rfl (.nil)⟩⟩
instance : IsVar Try.prog 104 false 1 := ⟨Try.isAgg104, Try.sizeOf104⟩
instance : IsNew Try.prog 104 [vlit (.int .i32 0)] := ⟨⟨_, Try.zeroValue104, fun _ => .cons rfl (.nil)⟩⟩
instance : IsVar Try.prog 105 true 11 := ⟨Try.isAgg105, Try.sizeOf105⟩
instance : IsNew Try.prog 105 [vlit (.int .u64 0), vlit (.int .u64 0), vlit (.int .u32 0), vlit (.int .u8 0), vlit (.int .u8 0), vlit (.int .u8 0), vlit (.int .u8 0), vlit (.nilFunc), vlit (.pointer none), vlit (.int .i32 0), vlit (.int .i32 0)] := ⟨⟨_, Try.zeroValue105, fun _ => .cons rfl (.cons rfl (.cons rfl (.cons rfl (.cons rfl (.cons rfl (.cons rfl (.cons rfl (.cons rfl (.cons rfl (.cons rfl (.nil)))))))))))⟩⟩
instance : IsStruct Try.prog 105 [(0, 1), (1, 1), (2, 1), (3, 1), (4, 1), (5, 1), (6, 1), (7, 1), (8, 1), (9, 1), (10, 1)] := ⟨⟨_, Try.underlying105, fun w => by simp [Try.sizeOf5, Try.sizeOf12, Try.sizeOf98, Try.sizeOf99, Try.sizeOf100, Try.sizeOf101, Try.sizeOf102, Try.sizeOf103, Try.sizeOf104]⟩⟩
instance : IsFld Try.prog 105 0 0 1 := ⟨⟨_, _, Try.underlying105, rfl, rfl, Try.sizeOf12, by decide⟩⟩
instance : IsFld Try.prog 105 1 1 1 := ⟨⟨_, _, Try.underlying105, rfl, rfl, Try.sizeOf12, by decide⟩⟩
instance : IsFld Try.prog 105 2 2 1 := ⟨⟨_, _, Try.underlying105, rfl, rfl, Try.sizeOf98, by decide⟩⟩
instance : IsFld Try.prog 105 3 3 1 := ⟨⟨_, _, Try.underlying105, rfl, rfl, Try.sizeOf99, by decide⟩⟩
instance : IsFld Try.prog 105 4 4 1 := ⟨⟨_, _, Try.underlying105, rfl, rfl, Try.sizeOf5, by decide⟩⟩
instance : IsFld Try.prog 105 5 5 1 := ⟨⟨_, _, Try.underlying105, rfl, rfl, Try.sizeOf5, by decide⟩⟩
instance : IsFld Try.prog 105 6 6 1 := ⟨⟨_, _, Try.underlying105, rfl, rfl, Try.sizeOf100, by decide⟩⟩
instance : IsFld Try.prog 105 7 7 1 := ⟨⟨_, _, Try.underlying105, rfl, rfl, Try.sizeOf101, by decide⟩⟩
instance : IsFld Try.prog 105 8 8 1 := ⟨⟨_, _, Try.underlying105, rfl, rfl, Try.sizeOf102, by decide⟩⟩
instance : IsFld Try.prog 105 9 9 1 := ⟨⟨_, _, Try.underlying105, rfl, rfl, Try.sizeOf103, by decide⟩⟩
instance : IsFld Try.prog 105 10 10 1 := ⟨⟨_, _, Try.underlying105, rfl, rfl, Try.sizeOf104, by decide⟩⟩
instance : IsVar Try.prog 106 true 11 := ⟨Try.isAgg106, Try.sizeOf106⟩
instance : IsNew Try.prog 106 [vlit (.int .u64 0), vlit (.int .u64 0), vlit (.int .u32 0), vlit (.int .u8 0), vlit (.int .u8 0), vlit (.int .u8 0), vlit (.int .u8 0), vlit (.nilFunc), vlit (.pointer none), vlit (.int .i32 0), vlit (.int .i32 0)] := ⟨⟨_, Try.zeroValue106, fun _ => .cons rfl (.cons rfl (.cons rfl (.cons rfl (.cons rfl (.cons rfl (.cons rfl (.cons rfl (.cons rfl (.cons rfl (.cons rfl (.nil)))))))))))⟩⟩
instance : IsStruct Try.prog 106 [(0, 1), (1, 1), (2, 1), (3, 1), (4, 1), (5, 1), (6, 1), (7, 1), (8, 1), (9, 1), (10, 1)] := ⟨⟨_, Try.underlying106, fun w => by simp [Try.sizeOf5, Try.sizeOf12, Try.sizeOf98, Try.sizeOf99, Try.sizeOf100, Try.sizeOf101, Try.sizeOf102, Try.sizeOf103, Try.sizeOf104]⟩⟩
instance : IsFld Try.prog 106 0 0 1 := ⟨⟨_, _, Try.underlying106, rfl, rfl, Try.sizeOf12, by decide⟩⟩
instance : IsFld Try.prog 106 1 1 1 := ⟨⟨_, _, Try.underlying106, rfl, rfl, Try.sizeOf12, by decide⟩⟩
instance : IsFld Try.prog 106 2 2 1 := ⟨⟨_, _, Try.underlying106, rfl, rfl, Try.sizeOf98, by decide⟩⟩
instance : IsFld Try.prog 106 3 3 1 := ⟨⟨_, _, Try.underlying106, rfl, rfl, Try.sizeOf99, by decide⟩⟩
instance : IsFld Try.prog 106 4 4 1 := ⟨⟨_, _, Try.underlying106, rfl, rfl, Try.sizeOf5, by decide⟩⟩
instance : IsFld Try.prog 106 5 5 1 := ⟨⟨_, _, Try.underlying106, rfl, rfl, Try.sizeOf5, by decide⟩⟩
instance : IsFld Try.prog 106 6 6 1 := ⟨⟨_, _, Try.underlying106, rfl, rfl, Try.sizeOf100, by decide⟩⟩
instance : IsFld Try.prog 106 7 7 1 := ⟨⟨_, _, Try.underlying106, rfl, rfl, Try.sizeOf101, by decide⟩⟩
instance : IsFld Try.prog 106 8 8 1 := ⟨⟨_, _, Try.underlying106, rfl, rfl, Try.sizeOf102, by decide⟩⟩
instance : IsFld Try.prog 106 9 9 1 := ⟨⟨_, _, Try.underlying106, rfl, rfl, Try.sizeOf103, by decide⟩⟩
instance : IsFld Try.prog 106 10 10 1 := ⟨⟨_, _, Try.underlying106, rfl, rfl, Try.sizeOf104, by decide⟩⟩
end Go.Proofs.Ytemfpennomelaaa
