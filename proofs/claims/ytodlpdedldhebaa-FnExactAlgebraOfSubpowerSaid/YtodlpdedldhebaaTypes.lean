/- The facts on the types of this translation, as class instances. No conditions. -/
import Derived.Test.YtodlpdedldhebaaProg
import Derived.KernelRfl
import Derived.Test.YtodlpdedldhebaaCoreZ
namespace Go.Proofs.Ytodlpdedldhebaa
open Go Go.Proofs

instance : IsVar Try.prog 1 false 1 := ⟨Try.isAgg1, Try.sizeOf1⟩
instance : IsNew Try.prog 1 [vlit (.nilFunc)] := ⟨⟨_, Try.zeroValue1, fun _ => .cons rfl (.nil)⟩⟩
instance : IsVar Try.prog 2 false 1 := ⟨Try.isAgg2, Try.sizeOf2⟩
instance : IsNew Try.prog 2 [vlit (.int .i64 0)] := ⟨⟨_, Try.zeroValue2, fun _ => .cons rfl (.nil)⟩⟩
instance : IsI64 Try.prog 2 := ⟨Try.underlying2⟩
instance : IsVar Try.prog 3 false 1 := ⟨Try.isAgg3, Try.sizeOf3⟩
instance : IsNew Try.prog 3 [vlit (.int .i64 0)] := ⟨⟨_, Try.zeroValue3, fun _ => .cons rfl (.nil)⟩⟩
instance : IsI64 Try.prog 3 := ⟨Try.underlying3⟩
instance : IsVar Try.prog 4 false 1 := ⟨Try.isAgg4, Try.sizeOf4⟩
instance : IsNew Try.prog 4 [vlit (.bool false)] := ⟨⟨_, Try.zeroValue4, fun _ => .cons rfl (.nil)⟩⟩
instance : IsBool Try.prog 4 := ⟨Try.underlying4⟩
instance : IsVar Try.prog 5 false 1 := ⟨Try.isAgg5, Try.sizeOf5⟩
instance : IsNew Try.prog 5 [vlit (.int .u8 0)] := ⟨⟨_, Try.zeroValue5, fun _ => .cons rfl (.nil)⟩⟩
instance : IsU8 Try.prog 5 := ⟨Try.underlying5⟩
instance : IsVar Try.prog 6 false 1 := ⟨Try.isAgg6, Try.sizeOf6⟩
instance : IsNew Try.prog 6 [vlit (.int .u8 0)] := ⟨⟨_, Try.zeroValue6, fun _ => .cons rfl (.nil)⟩⟩
instance : IsU8 Try.prog 6 := ⟨Try.underlying6⟩
instance : IsVar Try.prog 7 true 4 := ⟨Try.isAgg7, Try.sizeOf7⟩
instance : IsNew Try.prog 7 [vlit (.int .i64 0), vlit (.int .i64 0), vlit (.bool false), vlit (.int .u8 0)] := ⟨⟨_, Try.zeroValue7, fun _ => .cons rfl (.cons rfl (.cons rfl (.cons rfl (.nil))))⟩⟩
instance : IsStruct Try.prog 7 [(0, 1), (1, 1), (2, 1), (3, 1)] := ⟨⟨_, Try.underlying7, fun w => by simp [Try.sizeOf2, Try.sizeOf3, Try.sizeOf4, Try.sizeOf6]⟩⟩
instance : IsFld Try.prog 7 0 0 1 := ⟨⟨_, _, Try.underlying7, rfl, rfl, Try.sizeOf2, by decide⟩⟩
instance : IsFld Try.prog 7 1 1 1 := ⟨⟨_, _, Try.underlying7, rfl, rfl, Try.sizeOf3, by decide⟩⟩
instance : IsFld Try.prog 7 2 2 1 := ⟨⟨_, _, Try.underlying7, rfl, rfl, Try.sizeOf4, by decide⟩⟩
instance : IsFld Try.prog 7 3 3 1 := ⟨⟨_, _, Try.underlying7, rfl, rfl, Try.sizeOf6, by decide⟩⟩
instance : IsVar Try.prog 8 true 4 := ⟨Try.isAgg8, Try.sizeOf8⟩
instance : IsNew Try.prog 8 [vlit (.int .i64 0), vlit (.int .i64 0), vlit (.bool false), vlit (.int .u8 0)] := ⟨⟨_, Try.zeroValue8, fun _ => .cons rfl (.cons rfl (.cons rfl (.cons rfl (.nil))))⟩⟩
instance : IsStruct Try.prog 8 [(0, 1), (1, 1), (2, 1), (3, 1)] := ⟨⟨_, Try.underlying8, fun w => by simp [Try.sizeOf2, Try.sizeOf3, Try.sizeOf4, Try.sizeOf6]⟩⟩
instance : IsFld Try.prog 8 0 0 1 := ⟨⟨_, _, Try.underlying8, rfl, rfl, Try.sizeOf2, by decide⟩⟩
instance : IsFld Try.prog 8 1 1 1 := ⟨⟨_, _, Try.underlying8, rfl, rfl, Try.sizeOf3, by decide⟩⟩
instance : IsFld Try.prog 8 2 2 1 := ⟨⟨_, _, Try.underlying8, rfl, rfl, Try.sizeOf4, by decide⟩⟩
instance : IsFld Try.prog 8 3 3 1 := ⟨⟨_, _, Try.underlying8, rfl, rfl, Try.sizeOf6, by decide⟩⟩
instance : IsVar Try.prog 9 false 1 := ⟨Try.isAgg9, Try.sizeOf9⟩
instance : IsNew Try.prog 9 [vlit (.string .empty)] := ⟨⟨_, Try.zeroValue9, fun _ => .cons rfl (.nil)⟩⟩
instance : IsStr Try.prog 9 := ⟨Try.underlying9⟩
instance : IsVar Try.prog 10 false 1 := ⟨Try.isAgg10, Try.sizeOf10⟩
instance : IsNew Try.prog 10 [vlit (.string .empty)] := ⟨⟨_, Try.zeroValue10, fun _ => .cons rfl (.nil)⟩⟩
instance : IsStr Try.prog 10 := ⟨Try.underlying10⟩
instance : IsVar Try.prog 11 false 1 := ⟨Try.isAgg11, Try.sizeOf11⟩
instance : IsNew Try.prog 11 [vlit (.string .empty)] := ⟨⟨_, Try.zeroValue11, fun _ => .cons rfl (.nil)⟩⟩
instance : IsStr Try.prog 11 := ⟨Try.underlying11⟩
instance : IsVar Try.prog 12 false 1 := ⟨Try.isAgg12, Try.sizeOf12⟩
instance : IsNew Try.prog 12 [vlit (.int .u64 0)] := ⟨⟨_, Try.zeroValue12, fun _ => .cons rfl (.nil)⟩⟩
instance : IsU64 Try.prog 12 := ⟨Try.underlying12⟩
instance : IsVar Try.prog 13 true 2 := ⟨Try.isAgg13, Try.sizeOf13⟩
instance : IsNew Try.prog 13 [vlit (.string .empty), vlit (.int .u64 0)] := ⟨⟨_, Try.zeroValue13, fun _ => .cons rfl (.cons rfl (.nil))⟩⟩
instance : IsStruct Try.prog 13 [(0, 1), (1, 1)] := ⟨⟨_, Try.underlying13, fun w => by simp [Try.sizeOf9, Try.sizeOf12]⟩⟩
instance : IsFld Try.prog 13 0 0 1 := ⟨⟨_, _, Try.underlying13, rfl, rfl, Try.sizeOf9, by decide⟩⟩
instance : IsFld Try.prog 13 1 1 1 := ⟨⟨_, _, Try.underlying13, rfl, rfl, Try.sizeOf12, by decide⟩⟩
instance : IsVar Try.prog 14 true 2 := ⟨Try.isAgg14, Try.sizeOf14⟩
instance : IsNew Try.prog 14 [vlit (.string .empty), vlit (.int .u64 0)] := ⟨⟨_, Try.zeroValue14, fun _ => .cons rfl (.cons rfl (.nil))⟩⟩
instance : IsStruct Try.prog 14 [(0, 1), (1, 1)] := ⟨⟨_, Try.underlying14, fun w => by simp [Try.sizeOf9, Try.sizeOf12]⟩⟩
instance : IsFld Try.prog 14 0 0 1 := ⟨⟨_, _, Try.underlying14, rfl, rfl, Try.sizeOf9, by decide⟩⟩
instance : IsFld Try.prog 14 1 1 1 := ⟨⟨_, _, Try.underlying14, rfl, rfl, Try.sizeOf12, by decide⟩⟩
instance : IsVar Try.prog 15 false 1 := ⟨Try.isAgg15, Try.sizeOf15⟩
instance : IsNew Try.prog 15 [vlit (.pointer none)] := ⟨⟨_, Try.zeroValue15, fun _ => .cons rfl (.nil)⟩⟩
instance : IsVar Try.prog 16 false 1 := ⟨Try.isAgg16, Try.sizeOf16⟩
instance : IsNew Try.prog 16 [vlit (.pointer none)] := ⟨⟨_, Try.zeroValue16, fun _ => .cons rfl (.nil)⟩⟩
instance : IsVar Try.prog 17 false 1 := ⟨Try.isAgg17, Try.sizeOf17⟩
instance : IsNew Try.prog 17 [vlit (.pointer none)] := ⟨⟨_, Try.zeroValue17, fun _ => .cons rfl (.nil)⟩⟩
instance : IsVar Try.prog 18 true 1 := ⟨Try.isAgg18, Try.sizeOf18⟩
instance : IsNew Try.prog 18 [vlit (.pointer none)] := ⟨⟨_, Try.zeroValue18, fun _ => .cons rfl (.nil)⟩⟩
instance : IsStruct Try.prog 18 [(0, 1)] := ⟨⟨_, Try.underlying18, fun w => by simp [Try.sizeOf17]⟩⟩
instance : IsFld Try.prog 18 0 0 1 := ⟨⟨_, _, Try.underlying18, rfl, rfl, Try.sizeOf17, by decide⟩⟩
instance : IsVar Try.prog 19 true 1 := ⟨Try.isAgg19, Try.sizeOf19⟩
instance : IsNew Try.prog 19 [vlit (.pointer none)] := ⟨⟨_, Try.zeroValue19, fun _ => .cons rfl (.nil)⟩⟩
instance : IsStruct Try.prog 19 [(0, 1)] := ⟨⟨_, Try.underlying19, fun w => by simp [Try.sizeOf17]⟩⟩
instance : IsFld Try.prog 19 0 0 1 := ⟨⟨_, _, Try.underlying19, rfl, rfl, Try.sizeOf17, by decide⟩⟩
instance : IsVar Try.prog 21 false 1 := ⟨Try.isAgg21, Try.sizeOf21⟩
instance : IsNew Try.prog 21 [vlit (.int .i32 0)] := ⟨⟨_, Try.zeroValue21, fun _ => .cons rfl (.nil)⟩⟩
instance : IsVar Try.prog 22 false 1 := ⟨Try.isAgg22, Try.sizeOf22⟩
instance : IsNew Try.prog 22 [vlit (.slice none 0 0)] := ⟨⟨_, Try.zeroValue22, fun _ => .cons rfl (.nil)⟩⟩
instance : IsSl Try.prog 22 40 1 := ⟨Try.underlying22, Try.sizeOf40⟩
instance : IsSlM Try.prog 22 40 1 24 (.slice none 0 0) := ⟨⟨Try.t40, Try.underlying22, by kernel_rfl, rfl, rfl, rfl, rfl, by decide⟩⟩
instance : IsVar Try.prog 23 false 1 := ⟨Try.isAgg23, Try.sizeOf23⟩
instance : IsNew Try.prog 23 [vlit (.nilFunc)] := ⟨⟨_, Try.zeroValue23, fun _ => .cons rfl (.nil)⟩⟩
instance : IsVar Try.prog 24 true 2 := ⟨Try.isAgg24, Try.sizeOf24⟩
instance : IsNew Try.prog 24 [vlit (.int .i64 0), vlit (.slice none 0 0)] := ⟨⟨_, Try.zeroValue24, fun _ => .cons rfl (.cons rfl (.nil))⟩⟩
instance : IsStruct Try.prog 24 [(0, 1), (1, 1)] := ⟨⟨_, Try.underlying24, fun w => by simp [Try.sizeOf3, Try.sizeOf22]⟩⟩
instance : IsFld Try.prog 24 0 0 1 := ⟨⟨_, _, Try.underlying24, rfl, rfl, Try.sizeOf3, by decide⟩⟩
instance : IsFld Try.prog 24 1 1 1 := ⟨⟨_, _, Try.underlying24, rfl, rfl, Try.sizeOf22, by decide⟩⟩
instance : IsVar Try.prog 25 true 2 := ⟨Try.isAgg25, Try.sizeOf25⟩
instance : IsNew Try.prog 25 [vlit (.int .i64 0), vlit (.slice none 0 0)] := ⟨⟨_, Try.zeroValue25, fun _ => .cons rfl (.cons rfl (.nil))⟩⟩
instance : IsStruct Try.prog 25 [(0, 1), (1, 1)] := ⟨⟨_, Try.underlying25, fun w => by simp [Try.sizeOf3, Try.sizeOf22]⟩⟩
instance : IsFld Try.prog 25 0 0 1 := ⟨⟨_, _, Try.underlying25, rfl, rfl, Try.sizeOf3, by decide⟩⟩
instance : IsFld Try.prog 25 1 1 1 := ⟨⟨_, _, Try.underlying25, rfl, rfl, Try.sizeOf22, by decide⟩⟩
instance : IsVar Try.prog 27 false 1 := ⟨Try.isAgg27, Try.sizeOf27⟩
instance : IsNew Try.prog 27 [vlit (.nilFunc)] := ⟨⟨_, Try.zeroValue27, fun _ => .cons rfl (.nil)⟩⟩
instance : IsVar Try.prog 28 false 1 := ⟨Try.isAgg28, Try.sizeOf28⟩
instance : IsNew Try.prog 28 [vlit (.nilFunc)] := ⟨⟨_, Try.zeroValue28, fun _ => .cons rfl (.nil)⟩⟩
instance : IsVar Try.prog 29 false 1 := ⟨Try.isAgg29, Try.sizeOf29⟩
instance : IsNew Try.prog 29 [vlit (.nilFunc)] := ⟨⟨_, Try.zeroValue29, fun _ => .cons rfl (.nil)⟩⟩
instance : IsVar Try.prog 30 false 1 := ⟨Try.isAgg30, Try.sizeOf30⟩
instance : IsNew Try.prog 30 [vlit (.nilFunc)] := ⟨⟨_, Try.zeroValue30, fun _ => .cons rfl (.nil)⟩⟩
instance : IsVar Try.prog 31 false 1 := ⟨Try.isAgg31, Try.sizeOf31⟩
instance : IsNew Try.prog 31 [vlit (.nilFunc)] := ⟨⟨_, Try.zeroValue31, fun _ => .cons rfl (.nil)⟩⟩
instance : IsVar Try.prog 32 false 1 := ⟨Try.isAgg32, Try.sizeOf32⟩
instance : IsNew Try.prog 32 [vlit (.nilFunc)] := ⟨⟨_, Try.zeroValue32, fun _ => .cons rfl (.nil)⟩⟩
instance : IsVar Try.prog 33 true 2 := ⟨Try.isAgg33, Try.sizeOf33⟩
instance : IsNew Try.prog 33 [vlit (.int .i64 0), vlit (.slice none 0 0)] := ⟨⟨_, Try.zeroValue33, fun _ => .cons rfl (.cons rfl (.nil))⟩⟩
instance : IsStruct Try.prog 33 [(0, 1), (1, 1)] := ⟨⟨_, Try.underlying33, fun w => by simp [Try.sizeOf3, Try.sizeOf22]⟩⟩
instance : IsFld Try.prog 33 0 0 1 := ⟨⟨_, _, Try.underlying33, rfl, rfl, Try.sizeOf3, by decide⟩⟩
instance : IsFld Try.prog 33 1 1 1 := ⟨⟨_, _, Try.underlying33, rfl, rfl, Try.sizeOf22, by decide⟩⟩
instance : IsVar Try.prog 34 false 1 := ⟨Try.isAgg34, Try.sizeOf34⟩
instance : IsNew Try.prog 34 [vlit (.nilFunc)] := ⟨⟨_, Try.zeroValue34, fun _ => .cons rfl (.nil)⟩⟩
instance : IsVar Try.prog 35 false 1 := ⟨Try.isAgg35, Try.sizeOf35⟩
instance : IsNew Try.prog 35 [vlit (.nilFunc)] := ⟨⟨_, Try.zeroValue35, fun _ => .cons rfl (.nil)⟩⟩
instance : IsVar Try.prog 36 false 1 := ⟨Try.isAgg36, Try.sizeOf36⟩
instance : IsNew Try.prog 36 [vlit (.nilFunc)] := ⟨⟨_, Try.zeroValue36, fun _ => .cons rfl (.nil)⟩⟩
instance : IsVar Try.prog 37 false 1 := ⟨Try.isAgg37, Try.sizeOf37⟩
instance : IsNew Try.prog 37 [vlit (.nilFunc)] := ⟨⟨_, Try.zeroValue37, fun _ => .cons rfl (.nil)⟩⟩
instance : IsVar Try.prog 38 false 1 := ⟨Try.isAgg38, Try.sizeOf38⟩
instance : IsNew Try.prog 38 [vlit (.nilFunc)] := ⟨⟨_, Try.zeroValue38, fun _ => .cons rfl (.nil)⟩⟩
instance : IsVar Try.prog 39 false 1 := ⟨Try.isAgg39, Try.sizeOf39⟩
instance : IsNew Try.prog 39 [vlit (.nilFunc)] := ⟨⟨_, Try.zeroValue39, fun _ => .cons rfl (.nil)⟩⟩
instance : IsVar Try.prog 40 false 1 := ⟨Try.isAgg40, Try.sizeOf40⟩
instance : IsNew Try.prog 40 [vlit (.slice none 0 0)] := ⟨⟨_, Try.zeroValue40, fun _ => .cons rfl (.nil)⟩⟩
instance : IsSl Try.prog 40 3 1 := ⟨Try.underlying40, Try.sizeOf3⟩
instance : IsSlM Try.prog 40 3 1 8 (.int .i64 0) := ⟨⟨Try.t3, Try.underlying40, by kernel_rfl, rfl, rfl, rfl, rfl, by decide⟩⟩
instance : IsVar Try.prog 41 false 1 := ⟨Try.isAgg41, Try.sizeOf41⟩
instance : IsNew Try.prog 41 [vlit (.nilFunc)] := ⟨⟨_, Try.zeroValue41, fun _ => .cons rfl (.nil)⟩⟩
instance : IsVar Try.prog 42 false 1 := ⟨Try.isAgg42, Try.sizeOf42⟩
instance : IsNew Try.prog 42 [vlit (.nilFunc)] := ⟨⟨_, Try.zeroValue42, fun _ => .cons rfl (.nil)⟩⟩
instance : IsVar Try.prog 43 false 1 := ⟨Try.isAgg43, Try.sizeOf43⟩
instance : IsNew Try.prog 43 [vlit (.nilFunc)] := ⟨⟨_, Try.zeroValue43, fun _ => .cons rfl (.nil)⟩⟩
instance : IsVar Try.prog 44 false 1 := ⟨Try.isAgg44, Try.sizeOf44⟩
instance : IsNew Try.prog 44 [vlit (.nilFunc)] := ⟨⟨_, Try.zeroValue44, fun _ => .cons rfl (.nil)⟩⟩
instance : IsVar Try.prog 45 false 1 := ⟨Try.isAgg45, Try.sizeOf45⟩
instance : IsNew Try.prog 45 [vlit (.nilFunc)] := ⟨⟨_, Try.zeroValue45, fun _ => .cons rfl (.nil)⟩⟩
instance : IsVar Try.prog 46 false 1 := ⟨Try.isAgg46, Try.sizeOf46⟩
instance : IsNew Try.prog 46 [vlit (.nilFunc)] := ⟨⟨_, Try.zeroValue46, fun _ => .cons rfl (.nil)⟩⟩
instance : IsVar Try.prog 47 false 1 := ⟨Try.isAgg47, Try.sizeOf47⟩
instance : IsNew Try.prog 47 [vlit (.nilFunc)] := ⟨⟨_, Try.zeroValue47, fun _ => .cons rfl (.nil)⟩⟩
instance : IsVar Try.prog 48 false 1 := ⟨Try.isAgg48, Try.sizeOf48⟩
instance : IsNew Try.prog 48 [vlit (.slice none 0 0)] := ⟨⟨_, Try.zeroValue48, fun _ => .cons rfl (.nil)⟩⟩
instance : IsSl Try.prog 48 113 2 := ⟨Try.underlying48, Try.sizeOf113⟩
instance : IsSlM Try.prog 48 113 2 32 (.agg #[.int .i64 0, .slice none 0 0]) := ⟨⟨Try.t113, Try.underlying48, by kernel_rfl, rfl, rfl, rfl, rfl, by decide⟩⟩
instance : IsVar Try.prog 49 true 2 := ⟨Try.isAgg49, Try.sizeOf49⟩
instance : IsNew Try.prog 49 [vlit (.int .i64 0), vlit (.slice none 0 0)] := ⟨⟨_, Try.zeroValue49, fun _ => .cons rfl (.cons rfl (.nil))⟩⟩
instance : IsStruct Try.prog 49 [(0, 1), (1, 1)] := ⟨⟨_, Try.underlying49, fun w => by simp [Try.sizeOf3, Try.sizeOf48]⟩⟩
instance : IsFld Try.prog 49 0 0 1 := ⟨⟨_, _, Try.underlying49, rfl, rfl, Try.sizeOf3, by decide⟩⟩
instance : IsFld Try.prog 49 1 1 1 := ⟨⟨_, _, Try.underlying49, rfl, rfl, Try.sizeOf48, by decide⟩⟩
instance : IsVar Try.prog 50 true 2 := ⟨Try.isAgg50, Try.sizeOf50⟩
instance : IsNew Try.prog 50 [vlit (.int .i64 0), vlit (.slice none 0 0)] := ⟨⟨_, Try.zeroValue50, fun _ => .cons rfl (.cons rfl (.nil))⟩⟩
instance : IsStruct Try.prog 50 [(0, 1), (1, 1)] := ⟨⟨_, Try.underlying50, fun w => by simp [Try.sizeOf3, Try.sizeOf48]⟩⟩
instance : IsFld Try.prog 50 0 0 1 := ⟨⟨_, _, Try.underlying50, rfl, rfl, Try.sizeOf3, by decide⟩⟩
instance : IsFld Try.prog 50 1 1 1 := ⟨⟨_, _, Try.underlying50, rfl, rfl, Try.sizeOf48, by decide⟩⟩
instance : IsVar Try.prog 51 false 1 := ⟨Try.isAgg51, Try.sizeOf51⟩
instance : IsNew Try.prog 51 [vlit (.nilFunc)] := ⟨⟨_, Try.zeroValue51, fun _ => .cons rfl (.nil)⟩⟩
instance : IsVar Try.prog 53 false 1 := ⟨Try.isAgg53, Try.sizeOf53⟩
instance : IsNew Try.prog 53 [vlit (.nilFunc)] := ⟨⟨_, Try.zeroValue53, fun _ => .cons rfl (.nil)⟩⟩
instance : IsVar Try.prog 54 false 1 := ⟨Try.isAgg54, Try.sizeOf54⟩
instance : IsNew Try.prog 54 [vlit (.slice none 0 0)] := ⟨⟨_, Try.zeroValue54, fun _ => .cons rfl (.nil)⟩⟩
instance : IsSl Try.prog 54 100 2 := ⟨Try.underlying54, Try.sizeOf100⟩
instance : IsSlM Try.prog 54 100 2 32 (.agg #[.int .i64 0, .slice none 0 0]) := ⟨⟨Try.t100, Try.underlying54, by kernel_rfl, rfl, rfl, rfl, rfl, by decide⟩⟩
instance : IsVar Try.prog 55 true 2 := ⟨Try.isAgg55, Try.sizeOf55⟩
instance : IsNew Try.prog 55 [vlit (.int .i64 0), vlit (.slice none 0 0)] := ⟨⟨_, Try.zeroValue55, fun _ => .cons rfl (.cons rfl (.nil))⟩⟩
instance : IsStruct Try.prog 55 [(0, 1), (1, 1)] := ⟨⟨_, Try.underlying55, fun w => by simp [Try.sizeOf3, Try.sizeOf54]⟩⟩
instance : IsFld Try.prog 55 0 0 1 := ⟨⟨_, _, Try.underlying55, rfl, rfl, Try.sizeOf3, by decide⟩⟩
instance : IsFld Try.prog 55 1 1 1 := ⟨⟨_, _, Try.underlying55, rfl, rfl, Try.sizeOf54, by decide⟩⟩
instance : IsVar Try.prog 56 true 2 := ⟨Try.isAgg56, Try.sizeOf56⟩
instance : IsNew Try.prog 56 [vlit (.int .i64 0), vlit (.slice none 0 0)] := ⟨⟨_, Try.zeroValue56, fun _ => .cons rfl (.cons rfl (.nil))⟩⟩
instance : IsStruct Try.prog 56 [(0, 1), (1, 1)] := ⟨⟨_, Try.underlying56, fun w => by simp [Try.sizeOf3, Try.sizeOf54]⟩⟩
instance : IsFld Try.prog 56 0 0 1 := ⟨⟨_, _, Try.underlying56, rfl, rfl, Try.sizeOf3, by decide⟩⟩
instance : IsFld Try.prog 56 1 1 1 := ⟨⟨_, _, Try.underlying56, rfl, rfl, Try.sizeOf54, by decide⟩⟩
instance : IsVar Try.prog 57 false 1 := ⟨Try.isAgg57, Try.sizeOf57⟩
instance : IsNew Try.prog 57 [vlit (.nilFunc)] := ⟨⟨_, Try.zeroValue57, fun _ => .cons rfl (.nil)⟩⟩
instance : IsVar Try.prog 58 false 1 := ⟨Try.isAgg58, Try.sizeOf58⟩
instance : IsNew Try.prog 58 [vlit (.nilFunc)] := ⟨⟨_, Try.zeroValue58, fun _ => .cons rfl (.nil)⟩⟩
instance : IsVar Try.prog 59 false 1 := ⟨Try.isAgg59, Try.sizeOf59⟩
instance : IsNew Try.prog 59 [vlit (.nilFunc)] := ⟨⟨_, Try.zeroValue59, fun _ => .cons rfl (.nil)⟩⟩
instance : IsVar Try.prog 60 false 1 := ⟨Try.isAgg60, Try.sizeOf60⟩
instance : IsNew Try.prog 60 [vlit (.nilFunc)] := ⟨⟨_, Try.zeroValue60, fun _ => .cons rfl (.nil)⟩⟩
instance : IsVar Try.prog 62 false 1 := ⟨Try.isAgg62, Try.sizeOf62⟩
instance : IsNew Try.prog 62 [vlit (.nilFunc)] := ⟨⟨_, Try.zeroValue62, fun _ => .cons rfl (.nil)⟩⟩
instance : IsVar Try.prog 63 false 1 := ⟨Try.isAgg63, Try.sizeOf63⟩
instance : IsNew Try.prog 63 [vlit (.nilFunc)] := ⟨⟨_, Try.zeroValue63, fun _ => .cons rfl (.nil)⟩⟩
instance : IsVar Try.prog 64 false 1 := ⟨Try.isAgg64, Try.sizeOf64⟩
instance : IsNew Try.prog 64 [vlit (.nilFunc)] := ⟨⟨_, Try.zeroValue64, fun _ => .cons rfl (.nil)⟩⟩
instance : IsVar Try.prog 65 false 1 := ⟨Try.isAgg65, Try.sizeOf65⟩
instance : IsNew Try.prog 65 [vlit (.nilFunc)] := ⟨⟨_, Try.zeroValue65, fun _ => .cons rfl (.nil)⟩⟩
instance : IsVar Try.prog 67 false 1 := ⟨Try.isAgg67, Try.sizeOf67⟩
instance : IsNew Try.prog 67 [vlit (.nilFunc)] := ⟨⟨_, Try.zeroValue67, fun _ => .cons rfl (.nil)⟩⟩
instance : IsVar Try.prog 68 false 1 := ⟨Try.isAgg68, Try.sizeOf68⟩
instance : IsNew Try.prog 68 [vlit (.nilFunc)] := ⟨⟨_, Try.zeroValue68, fun _ => .cons rfl (.nil)⟩⟩
instance : IsVar Try.prog 69 false 1 := ⟨Try.isAgg69, Try.sizeOf69⟩
instance : IsNew Try.prog 69 [vlit (.nilFunc)] := ⟨⟨_, Try.zeroValue69, fun _ => .cons rfl (.nil)⟩⟩
instance : IsVar Try.prog 70 false 1 := ⟨Try.isAgg70, Try.sizeOf70⟩
instance : IsNew Try.prog 70 [vlit (.nilFunc)] := ⟨⟨_, Try.zeroValue70, fun _ => .cons rfl (.nil)⟩⟩
instance : IsVar Try.prog 71 false 1 := ⟨Try.isAgg71, Try.sizeOf71⟩
instance : IsNew Try.prog 71 [vlit (.nilFunc)] := ⟨⟨_, Try.zeroValue71, fun _ => .cons rfl (.nil)⟩⟩
instance : IsVar Try.prog 72 false 1 := ⟨Try.isAgg72, Try.sizeOf72⟩
instance : IsNew Try.prog 72 [vlit (.nilFunc)] := ⟨⟨_, Try.zeroValue72, fun _ => .cons rfl (.nil)⟩⟩
instance : IsVar Try.prog 73 false 1 := ⟨Try.isAgg73, Try.sizeOf73⟩
instance : IsNew Try.prog 73 [vlit (.nilFunc)] := ⟨⟨_, Try.zeroValue73, fun _ => .cons rfl (.nil)⟩⟩
instance : IsVar Try.prog 74 false 1 := ⟨Try.isAgg74, Try.sizeOf74⟩
instance : IsNew Try.prog 74 [vlit (.nilFunc)] := ⟨⟨_, Try.zeroValue74, fun _ => .cons rfl (.nil)⟩⟩
instance : IsVar Try.prog 75 false 1 := ⟨Try.isAgg75, Try.sizeOf75⟩
instance : IsNew Try.prog 75 [vlit (.nilFunc)] := ⟨⟨_, Try.zeroValue75, fun _ => .cons rfl (.nil)⟩⟩
instance : IsVar Try.prog 76 false 1 := ⟨Try.isAgg76, Try.sizeOf76⟩
instance : IsNew Try.prog 76 [vlit (.nilFunc)] := ⟨⟨_, Try.zeroValue76, fun _ => .cons rfl (.nil)⟩⟩
instance : IsVar Try.prog 77 false 1 := ⟨Try.isAgg77, Try.sizeOf77⟩
instance : IsNew Try.prog 77 [vlit (.nilFunc)] := ⟨⟨_, Try.zeroValue77, fun _ => .cons rfl (.nil)⟩⟩
instance : IsVar Try.prog 78 false 1 := ⟨Try.isAgg78, Try.sizeOf78⟩
instance : IsNew Try.prog 78 [vlit (.nilFunc)] := ⟨⟨_, Try.zeroValue78, fun _ => .cons rfl (.nil)⟩⟩
instance : IsVar Try.prog 79 false 1 := ⟨Try.isAgg79, Try.sizeOf79⟩
instance : IsNew Try.prog 79 [vlit (.nilFunc)] := ⟨⟨_, Try.zeroValue79, fun _ => .cons rfl (.nil)⟩⟩
instance : IsVar Try.prog 80 false 1 := ⟨Try.isAgg80, Try.sizeOf80⟩
instance : IsNew Try.prog 80 [vlit (.nilFunc)] := ⟨⟨_, Try.zeroValue80, fun _ => .cons rfl (.nil)⟩⟩
instance : IsVar Try.prog 81 false 1 := ⟨Try.isAgg81, Try.sizeOf81⟩
instance : IsNew Try.prog 81 [vlit (.nilFunc)] := ⟨⟨_, Try.zeroValue81, fun _ => .cons rfl (.nil)⟩⟩
instance : IsVar Try.prog 82 false 1 := ⟨Try.isAgg82, Try.sizeOf82⟩
instance : IsNew Try.prog 82 [vlit (.nilFunc)] := ⟨⟨_, Try.zeroValue82, fun _ => .cons rfl (.nil)⟩⟩
instance : IsVar Try.prog 83 false 1 := ⟨Try.isAgg83, Try.sizeOf83⟩
instance : IsNew Try.prog 83 [vlit (.nilFunc)] := ⟨⟨_, Try.zeroValue83, fun _ => .cons rfl (.nil)⟩⟩
instance : IsVar Try.prog 84 false 1 := ⟨Try.isAgg84, Try.sizeOf84⟩
instance : IsNew Try.prog 84 [vlit (.nilFunc)] := ⟨⟨_, Try.zeroValue84, fun _ => .cons rfl (.nil)⟩⟩
instance : IsVar Try.prog 85 false 1 := ⟨Try.isAgg85, Try.sizeOf85⟩
instance : IsNew Try.prog 85 [vlit (.nilFunc)] := ⟨⟨_, Try.zeroValue85, fun _ => .cons rfl (.nil)⟩⟩
instance : IsVar Try.prog 86 false 1 := ⟨Try.isAgg86, Try.sizeOf86⟩
instance : IsNew Try.prog 86 [vlit (.nilFunc)] := ⟨⟨_, Try.zeroValue86, fun _ => .cons rfl (.nil)⟩⟩
instance : IsVar Try.prog 87 false 1 := ⟨Try.isAgg87, Try.sizeOf87⟩
instance : IsNew Try.prog 87 [vlit (.nilFunc)] := ⟨⟨_, Try.zeroValue87, fun _ => .cons rfl (.nil)⟩⟩
instance : IsVar Try.prog 88 false 1 := ⟨Try.isAgg88, Try.sizeOf88⟩
instance : IsNew Try.prog 88 [vlit (.nilFunc)] := ⟨⟨_, Try.zeroValue88, fun _ => .cons rfl (.nil)⟩⟩
instance : IsVar Try.prog 89 false 1 := ⟨Try.isAgg89, Try.sizeOf89⟩
instance : IsNew Try.prog 89 [vlit (.nilFunc)] := ⟨⟨_, Try.zeroValue89, fun _ => .cons rfl (.nil)⟩⟩
instance : IsVar Try.prog 90 false 1 := ⟨Try.isAgg90, Try.sizeOf90⟩
instance : IsNew Try.prog 90 [vlit (.nilFunc)] := ⟨⟨_, Try.zeroValue90, fun _ => .cons rfl (.nil)⟩⟩
instance : IsVar Try.prog 92 false 1 := ⟨Try.isAgg92, Try.sizeOf92⟩
instance : IsNew Try.prog 92 [vlit (.nilFunc)] := ⟨⟨_, Try.zeroValue92, fun _ => .cons rfl (.nil)⟩⟩
instance : IsVar Try.prog 93 false 1 := ⟨Try.isAgg93, Try.sizeOf93⟩
instance : IsNew Try.prog 93 [vlit (.map none)] := ⟨⟨_, Try.zeroValue93, fun _ => .cons rfl (.nil)⟩⟩
instance : IsSet Try.prog 93 := ⟨⟨_, _, Try.underlying93, Try.underlying9, Try.zeroValue4⟩⟩
instance : IsVar Try.prog 94 false 1 := ⟨Try.isAgg94, Try.sizeOf94⟩
instance : IsNew Try.prog 94 [vlit (.nilFunc)] := ⟨⟨_, Try.zeroValue94, fun _ => .cons rfl (.nil)⟩⟩
instance : IsVar Try.prog 95 false 1 := ⟨Try.isAgg95, Try.sizeOf95⟩
instance : IsNew Try.prog 95 [vlit (.slice none 0 0)] := ⟨⟨_, Try.zeroValue95, fun _ => .cons rfl (.nil)⟩⟩
instance : IsSl Try.prog 95 4 1 := ⟨Try.underlying95, Try.sizeOf4⟩
instance : IsSlM Try.prog 95 4 1 1 (.bool false) := ⟨⟨Try.t4, Try.underlying95, by kernel_rfl, rfl, rfl, rfl, rfl, by decide⟩⟩
instance : IsVar Try.prog 96 false 1 := ⟨Try.isAgg96, Try.sizeOf96⟩
instance : IsNew Try.prog 96 [vlit (.nilFunc)] := ⟨⟨_, Try.zeroValue96, fun _ => .cons rfl (.nil)⟩⟩
instance : IsVar Try.prog 97 false 1 := ⟨Try.isAgg97, Try.sizeOf97⟩
instance : IsNew Try.prog 97 [vlit (.nilFunc)] := ⟨⟨_, Try.zeroValue97, fun _ => .cons rfl (.nil)⟩⟩
instance : IsVar Try.prog 98 false 1 := ⟨Try.isAgg98, Try.sizeOf98⟩
instance : IsNew Try.prog 98 [vlit (.map none)] := ⟨⟨_, Try.zeroValue98, fun _ => .cons rfl (.nil)⟩⟩
instance : IsMapI Try.prog 98 := ⟨⟨_, _, Try.underlying98, Try.underlying9, Try.zeroValue3⟩⟩
instance : IsVar Try.prog 99 true 2 := ⟨Try.isAgg99, Try.sizeOf99⟩
instance : IsNew Try.prog 99 [vlit (.int .i64 0), vlit (.slice none 0 0)] := ⟨⟨_, Try.zeroValue99, fun _ => .cons rfl (.cons rfl (.nil))⟩⟩
instance : IsStruct Try.prog 99 [(0, 1), (1, 1)] := ⟨⟨_, Try.underlying99, fun w => by simp [Try.sizeOf3, Try.sizeOf40]⟩⟩
instance : IsFld Try.prog 99 0 0 1 := ⟨⟨_, _, Try.underlying99, rfl, rfl, Try.sizeOf3, by decide⟩⟩
instance : IsFld Try.prog 99 1 1 1 := ⟨⟨_, _, Try.underlying99, rfl, rfl, Try.sizeOf40, by decide⟩⟩
instance : IsVar Try.prog 100 true 2 := ⟨Try.isAgg100, Try.sizeOf100⟩
instance : IsNew Try.prog 100 [vlit (.int .i64 0), vlit (.slice none 0 0)] := ⟨⟨_, Try.zeroValue100, fun _ => .cons rfl (.cons rfl (.nil))⟩⟩
instance : IsStruct Try.prog 100 [(0, 1), (1, 1)] := ⟨⟨_, Try.underlying100, fun w => by simp [Try.sizeOf3, Try.sizeOf40]⟩⟩
instance : IsFld Try.prog 100 0 0 1 := ⟨⟨_, _, Try.underlying100, rfl, rfl, Try.sizeOf3, by decide⟩⟩
instance : IsFld Try.prog 100 1 1 1 := ⟨⟨_, _, Try.underlying100, rfl, rfl, Try.sizeOf40, by decide⟩⟩
instance : IsVar Try.prog 101 false 1 := ⟨Try.isAgg101, Try.sizeOf101⟩
instance : IsNew Try.prog 101 [vlit (.nilFunc)] := ⟨⟨_, Try.zeroValue101, fun _ => .cons rfl (.nil)⟩⟩
instance : IsVar Try.prog 102 false 1 := ⟨Try.isAgg102, Try.sizeOf102⟩
instance : IsNew Try.prog 102 [vlit (.nilFunc)] := ⟨⟨_, Try.zeroValue102, fun _ => .cons rfl (.nil)⟩⟩
instance : IsVar Try.prog 103 false 1 := ⟨Try.isAgg103, Try.sizeOf103⟩
instance : IsNew Try.prog 103 [vlit (.nilFunc)] := ⟨⟨_, Try.zeroValue103, fun _ => .cons rfl (.nil)⟩⟩
instance : IsVar Try.prog 104 false 1 := ⟨Try.isAgg104, Try.sizeOf104⟩
instance : IsNew Try.prog 104 [vlit (.pointer none)] := ⟨⟨_, Try.zeroValue104, fun _ => .cons rfl (.nil)⟩⟩
instance : IsVar Try.prog 106 false 1 := ⟨Try.isAgg106, Try.sizeOf106⟩
instance : IsNew Try.prog 106 [vlit (.nilFunc)] := ⟨⟨_, Try.zeroValue106, fun _ => .cons rfl (.nil)⟩⟩
instance : IsVar Try.prog 107 true 5 := ⟨Try.isAgg107, Try.sizeOf107⟩
instance : IsNew Try.prog 107 [vlit (.int .i64 0), vlit (.slice none 0 0), vlit (.int .i64 0), vlit (.slice none 0 0), vlit (.map none)] := ⟨⟨_, Try.zeroValue107, fun _ => .cons rfl (.cons rfl (.cons rfl (.cons rfl (.cons rfl (.nil)))))⟩⟩
instance : IsStruct Try.prog 107 [(0, 2), (2, 1), (3, 1), (4, 1)] := ⟨⟨_, Try.underlying107, fun w => by simp [Try.sizeOf3, Try.sizeOf22, Try.sizeOf56, Try.sizeOf98]⟩⟩
instance : IsFld Try.prog 107 0 0 2 := ⟨⟨_, _, Try.underlying107, rfl, rfl, Try.sizeOf56, by decide⟩⟩
instance : IsFld Try.prog 107 1 2 1 := ⟨⟨_, _, Try.underlying107, rfl, rfl, Try.sizeOf3, by decide⟩⟩
instance : IsFld Try.prog 107 2 3 1 := ⟨⟨_, _, Try.underlying107, rfl, rfl, Try.sizeOf22, by decide⟩⟩
instance : IsFld Try.prog 107 3 4 1 := ⟨⟨_, _, Try.underlying107, rfl, rfl, Try.sizeOf98, by decide⟩⟩
instance : IsVar Try.prog 108 true 5 := ⟨Try.isAgg108, Try.sizeOf108⟩
instance : IsNew Try.prog 108 [vlit (.int .i64 0), vlit (.slice none 0 0), vlit (.int .i64 0), vlit (.slice none 0 0), vlit (.map none)] := ⟨⟨_, Try.zeroValue108, fun _ => .cons rfl (.cons rfl (.cons rfl (.cons rfl (.cons rfl (.nil)))))⟩⟩
instance : IsStruct Try.prog 108 [(0, 2), (2, 1), (3, 1), (4, 1)] := ⟨⟨_, Try.underlying108, fun w => by simp [Try.sizeOf3, Try.sizeOf22, Try.sizeOf56, Try.sizeOf98]⟩⟩
instance : IsFld Try.prog 108 0 0 2 := ⟨⟨_, _, Try.underlying108, rfl, rfl, Try.sizeOf56, by decide⟩⟩
instance : IsFld Try.prog 108 1 2 1 := ⟨⟨_, _, Try.underlying108, rfl, rfl, Try.sizeOf3, by decide⟩⟩
instance : IsFld Try.prog 108 2 3 1 := ⟨⟨_, _, Try.underlying108, rfl, rfl, Try.sizeOf22, by decide⟩⟩
instance : IsFld Try.prog 108 3 4 1 := ⟨⟨_, _, Try.underlying108, rfl, rfl, Try.sizeOf98, by decide⟩⟩
instance : IsVar Try.prog 109 false 1 := ⟨Try.isAgg109, Try.sizeOf109⟩
instance : IsNew Try.prog 109 [vlit (.nilFunc)] := ⟨⟨_, Try.zeroValue109, fun _ => .cons rfl (.nil)⟩⟩
instance : IsVar Try.prog 110 false 1 := ⟨Try.isAgg110, Try.sizeOf110⟩
instance : IsNew Try.prog 110 [vlit (.nilFunc)] := ⟨⟨_, Try.zeroValue110, fun _ => .cons rfl (.nil)⟩⟩
instance : IsVar Try.prog 111 false 1 := ⟨Try.isAgg111, Try.sizeOf111⟩
instance : IsNew Try.prog 111 [vlit (.nilFunc)] := ⟨⟨_, Try.zeroValue111, fun _ => .cons rfl (.nil)⟩⟩
instance : IsVar Try.prog 112 false 1 := ⟨Try.isAgg112, Try.sizeOf112⟩
instance : IsNew Try.prog 112 [vlit (.nilFunc)] := ⟨⟨_, Try.zeroValue112, fun _ => .cons rfl (.nil)⟩⟩
instance : IsVar Try.prog 113 true 2 := ⟨Try.isAgg113, Try.sizeOf113⟩
instance : IsNew Try.prog 113 [vlit (.int .i64 0), vlit (.slice none 0 0)] := ⟨⟨_, Try.zeroValue113, fun _ => .cons rfl (.cons rfl (.nil))⟩⟩
instance : IsStruct Try.prog 113 [(0, 1), (1, 1)] := ⟨⟨_, Try.underlying113, fun w => by simp [Try.sizeOf3, Try.sizeOf40]⟩⟩
instance : IsFld Try.prog 113 0 0 1 := ⟨⟨_, _, Try.underlying113, rfl, rfl, Try.sizeOf3, by decide⟩⟩
instance : IsFld Try.prog 113 1 1 1 := ⟨⟨_, _, Try.underlying113, rfl, rfl, Try.sizeOf40, by decide⟩⟩
instance : IsVar Try.prog 114 false 1 := ⟨Try.isAgg114, Try.sizeOf114⟩
instance : IsNew Try.prog 114 [vlit (.nilFunc)] := ⟨⟨_, Try.zeroValue114, fun _ => .cons rfl (.nil)⟩⟩
instance : IsVar Try.prog 115 false 1 := ⟨Try.isAgg115, Try.sizeOf115⟩
instance : IsNew Try.prog 115 [vlit (.nilFunc)] := ⟨⟨_, Try.zeroValue115, fun _ => .cons rfl (.nil)⟩⟩
instance : IsVar Try.prog 116 false 1 := ⟨Try.isAgg116, Try.sizeOf116⟩
instance : IsNew Try.prog 116 [vlit (.nilFunc)] := ⟨⟨_, Try.zeroValue116, fun _ => .cons rfl (.nil)⟩⟩
instance : IsVar Try.prog 117 false 1 := ⟨Try.isAgg117, Try.sizeOf117⟩
instance : IsNew Try.prog 117 [vlit (.nilFunc)] := ⟨⟨_, Try.zeroValue117, fun _ => .cons rfl (.nil)⟩⟩
instance : IsVar Try.prog 118 false 1 := ⟨Try.isAgg118, Try.sizeOf118⟩
instance : IsNew Try.prog 118 [vlit (.nilFunc)] := ⟨⟨_, Try.zeroValue118, fun _ => .cons rfl (.nil)⟩⟩
instance : IsVar Try.prog 119 false 1 := ⟨Try.isAgg119, Try.sizeOf119⟩
instance : IsNew Try.prog 119 [vlit (.nilFunc)] := ⟨⟨_, Try.zeroValue119, fun _ => .cons rfl (.nil)⟩⟩
instance : IsVar Try.prog 121 false 1 := ⟨Try.isAgg121, Try.sizeOf121⟩
instance : IsNew Try.prog 121 [vlit (.nilFunc)] := ⟨⟨_, Try.zeroValue121, fun _ => .cons rfl (.nil)⟩⟩
instance : IsVar Try.prog 122 false 1 := ⟨Try.isAgg122, Try.sizeOf122⟩
instance : IsNew Try.prog 122 [vlit (.nilFunc)] := ⟨⟨_, Try.zeroValue122, fun _ => .cons rfl (.nil)⟩⟩
instance : IsVar Try.prog 123 false 1 := ⟨Try.isAgg123, Try.sizeOf123⟩
instance : IsNew Try.prog 123 [vlit (.slice none 0 0)] := ⟨⟨_, Try.zeroValue123, fun _ => .cons rfl (.nil)⟩⟩
instance : IsSl Try.prog 123 5 1 := ⟨Try.underlying123, Try.sizeOf5⟩
instance : IsSlM Try.prog 123 5 1 1 (.int .u8 0) := ⟨⟨Try.t5, Try.underlying123, by kernel_rfl, rfl, rfl, rfl, rfl, by decide⟩⟩
instance : IsVar Try.prog 124 false 1 := ⟨Try.isAgg124, Try.sizeOf124⟩
instance : IsNew Try.prog 124 [vlit (.int .u64 0)] := ⟨⟨_, Try.zeroValue124, fun _ => .cons rfl (.nil)⟩⟩
instance : IsU64 Try.prog 124 := ⟨Try.underlying124⟩
instance : IsVar Try.prog 125 false 1 := ⟨Try.isAgg125, Try.sizeOf125⟩
instance : IsNew Try.prog 125 [vlit (.nilFunc)] := ⟨⟨_, Try.zeroValue125, fun _ => .cons rfl (.nil)⟩⟩
instance : IsVar Try.prog 126 false 1 := ⟨Try.isAgg126, Try.sizeOf126⟩
instance : IsNew Try.prog 126 [vlit (.nilFunc)] := ⟨⟨_, Try.zeroValue126, fun _ => .cons rfl (.nil)⟩⟩
instance : IsVar Try.prog 127 false 1 := ⟨Try.isAgg127, Try.sizeOf127⟩
instance : IsNew Try.prog 127 [vlit (.nilFunc)] := ⟨⟨_, Try.zeroValue127, fun _ => .cons rfl (.nil)⟩⟩
instance : IsVar Try.prog 128 false 1 := ⟨Try.isAgg128, Try.sizeOf128⟩
instance : IsNew Try.prog 128 [vlit (.nilFunc)] := ⟨⟨_, Try.zeroValue128, fun _ => .cons rfl (.nil)⟩⟩
instance : IsVar Try.prog 129 false 1 := ⟨Try.isAgg129, Try.sizeOf129⟩
instance : IsNew Try.prog 129 [vlit (.pointer none)] := ⟨⟨_, Try.zeroValue129, fun _ => .cons rfl (.nil)⟩⟩
instance : IsVar Try.prog 130 true 9 := ⟨Try.isAgg130, Try.sizeOf130⟩
instance : IsNew Try.prog 130 [vlit (.int .i64 0), vlit (.slice none 0 0), vlit (.int .i64 0), vlit (.slice none 0 0), vlit (.bool false), vlit (.bool false), vlit (.int .i64 0), vlit (.int .i64 0), vlit (.slice none 0 0)] := ⟨⟨_, Try.zeroValue130, fun _ => .cons rfl (.cons rfl (.cons rfl (.cons rfl (.cons rfl (.cons rfl (.cons rfl (.cons rfl (.cons rfl (.nil)))))))))⟩⟩
instance : IsStruct Try.prog 130 [(0, 2), (2, 2), (4, 1), (5, 1), (6, 1), (7, 1), (8, 1)] := ⟨⟨_, Try.underlying130, fun w => by simp [Try.sizeOf3, Try.sizeOf4, Try.sizeOf22, Try.sizeOf56]⟩⟩
instance : IsFld Try.prog 130 0 0 2 := ⟨⟨_, _, Try.underlying130, rfl, rfl, Try.sizeOf56, by decide⟩⟩
instance : IsFld Try.prog 130 1 2 2 := ⟨⟨_, _, Try.underlying130, rfl, rfl, Try.sizeOf56, by decide⟩⟩
instance : IsFld Try.prog 130 2 4 1 := ⟨⟨_, _, Try.underlying130, rfl, rfl, Try.sizeOf4, by decide⟩⟩
instance : IsFld Try.prog 130 3 5 1 := ⟨⟨_, _, Try.underlying130, rfl, rfl, Try.sizeOf4, by decide⟩⟩
instance : IsFld Try.prog 130 4 6 1 := ⟨⟨_, _, Try.underlying130, rfl, rfl, Try.sizeOf3, by decide⟩⟩
instance : IsFld Try.prog 130 5 7 1 := ⟨⟨_, _, Try.underlying130, rfl, rfl, Try.sizeOf3, by decide⟩⟩
instance : IsFld Try.prog 130 6 8 1 := ⟨⟨_, _, Try.underlying130, rfl, rfl, Try.sizeOf22, by decide⟩⟩
instance : IsVar Try.prog 131 true 9 := ⟨Try.isAgg131, Try.sizeOf131⟩
instance : IsNew Try.prog 131 [vlit (.int .i64 0), vlit (.slice none 0 0), vlit (.int .i64 0), vlit (.slice none 0 0), vlit (.bool false), vlit (.bool false), vlit (.int .i64 0), vlit (.int .i64 0), vlit (.slice none 0 0)] := ⟨⟨_, Try.zeroValue131, fun _ => .cons rfl (.cons rfl (.cons rfl (.cons rfl (.cons rfl (.cons rfl (.cons rfl (.cons rfl (.cons rfl (.nil)))))))))⟩⟩
instance : IsStruct Try.prog 131 [(0, 2), (2, 2), (4, 1), (5, 1), (6, 1), (7, 1), (8, 1)] := ⟨⟨_, Try.underlying131, fun w => by simp [Try.sizeOf3, Try.sizeOf4, Try.sizeOf22, Try.sizeOf56]⟩⟩
instance : IsFld Try.prog 131 0 0 2 := ⟨⟨_, _, Try.underlying131, rfl, rfl, Try.sizeOf56, by decide⟩⟩
instance : IsFld Try.prog 131 1 2 2 := ⟨⟨_, _, Try.underlying131, rfl, rfl, Try.sizeOf56, by decide⟩⟩
instance : IsFld Try.prog 131 2 4 1 := ⟨⟨_, _, Try.underlying131, rfl, rfl, Try.sizeOf4, by decide⟩⟩
instance : IsFld Try.prog 131 3 5 1 := ⟨⟨_, _, Try.underlying131, rfl, rfl, Try.sizeOf4, by decide⟩⟩
instance : IsFld Try.prog 131 4 6 1 := ⟨⟨_, _, Try.underlying131, rfl, rfl, Try.sizeOf3, by decide⟩⟩
instance : IsFld Try.prog 131 5 7 1 := ⟨⟨_, _, Try.underlying131, rfl, rfl, Try.sizeOf3, by decide⟩⟩
instance : IsFld Try.prog 131 6 8 1 := ⟨⟨_, _, Try.underlying131, rfl, rfl, Try.sizeOf22, by decide⟩⟩
instance : IsVar Try.prog 132 false 1 := ⟨Try.isAgg132, Try.sizeOf132⟩
instance : IsNew Try.prog 132 [vlit (.nilFunc)] := ⟨⟨_, Try.zeroValue132, fun _ => .cons rfl (.nil)⟩⟩
instance : IsVar Try.prog 133 false 1 := ⟨Try.isAgg133, Try.sizeOf133⟩
instance : IsNew Try.prog 133 [vlit (.nilFunc)] := ⟨⟨_, Try.zeroValue133, fun _ => .cons rfl (.nil)⟩⟩
instance : IsVar Try.prog 134 false 1 := ⟨Try.isAgg134, Try.sizeOf134⟩
instance : IsNew Try.prog 134 [vlit (.nilFunc)] := ⟨⟨_, Try.zeroValue134, fun _ => .cons rfl (.nil)⟩⟩
instance : IsVar Try.prog 136 false 1 := ⟨Try.isAgg136, Try.sizeOf136⟩
instance : IsNew Try.prog 136 [vlit (.int .u64 0)] := ⟨⟨_, Try.zeroValue136, fun _ => .cons rfl (.nil)⟩⟩
instance : IsU64 Try.prog 136 := ⟨Try.underlying136⟩
instance : IsVar Try.prog 137 true 3 := ⟨Try.isAgg137, Try.sizeOf137⟩
instance : IsNew Try.prog 137 [vlit (.pointer none), vlit (.pointer none), vlit (.int .u64 0)] := ⟨⟨_, Try.zeroValue137, fun _ => .cons rfl (.cons rfl (.cons rfl (.nil)))⟩⟩
instance : IsStruct Try.prog 137 [(0, 1), (1, 1), (2, 1)] := ⟨⟨_, Try.underlying137, fun w => by simp [Try.sizeOf17, Try.sizeOf135, Try.sizeOf136]⟩⟩
instance : IsFld Try.prog 137 0 0 1 := ⟨⟨_, _, Try.underlying137, rfl, rfl, Try.sizeOf17, by decide⟩⟩
instance : IsFld Try.prog 137 1 1 1 := ⟨⟨_, _, Try.underlying137, rfl, rfl, Try.sizeOf135, by decide⟩⟩
instance : IsFld Try.prog 137 2 2 1 := ⟨⟨_, _, Try.underlying137, rfl, rfl, Try.sizeOf136, by decide⟩⟩
instance : IsVar Try.prog 138 true 3 := ⟨Try.isAgg138, Try.sizeOf138⟩
instance : IsNew Try.prog 138 [vlit (.pointer none), vlit (.pointer none), vlit (.int .u64 0)] := ⟨⟨_, Try.zeroValue138, fun _ => .cons rfl (.cons rfl (.cons rfl (.nil)))⟩⟩
instance : IsStruct Try.prog 138 [(0, 1), (1, 1), (2, 1)] := ⟨⟨_, Try.underlying138, fun w => by simp [Try.sizeOf17, Try.sizeOf135, Try.sizeOf136]⟩⟩
instance : IsFld Try.prog 138 0 0 1 := ⟨⟨_, _, Try.underlying138, rfl, rfl, Try.sizeOf17, by decide⟩⟩
instance : IsFld Try.prog 138 1 1 1 := ⟨⟨_, _, Try.underlying138, rfl, rfl, Try.sizeOf135, by decide⟩⟩
instance : IsFld Try.prog 138 2 2 1 := ⟨⟨_, _, Try.underlying138, rfl, rfl, Try.sizeOf136, by decide⟩⟩
instance : IsVar Try.prog 139 false 1 := ⟨Try.isAgg139, Try.sizeOf139⟩
instance : IsNew Try.prog 139 [vlit (.nilFunc)] := ⟨⟨_, Try.zeroValue139, fun _ => .cons rfl (.nil)⟩⟩
instance : IsVar Try.prog 140 false 1 := ⟨Try.isAgg140, Try.sizeOf140⟩
instance : IsNew Try.prog 140 [vlit (.nilFunc)] := ⟨⟨_, Try.zeroValue140, fun _ => .cons rfl (.nil)⟩⟩
instance : IsVar Try.prog 141 false 1 := ⟨Try.isAgg141, Try.sizeOf141⟩
instance : IsNew Try.prog 141 [vlit (.nilFunc)] := ⟨⟨_, Try.zeroValue141, fun _ => .cons rfl (.nil)⟩⟩
instance : IsVar Try.prog 142 false 1 := ⟨Try.isAgg142, Try.sizeOf142⟩
instance : IsNew Try.prog 142 [vlit (.nilFunc)] := ⟨⟨_, Try.zeroValue142, fun _ => .cons rfl (.nil)⟩⟩
instance : IsVar Try.prog 143 true 2 := ⟨Try.isAgg143, Try.sizeOf143⟩
instance : IsNew Try.prog 143 [vlit (.nilFunc), vlit (.nilFunc)] := ⟨⟨_, Try.zeroValue143, fun _ => .cons rfl (.cons rfl (.nil))⟩⟩
instance : IsStruct Try.prog 143 [(0, 1), (1, 1)] := ⟨⟨_, Try.underlying143, fun w => by simp [Try.sizeOf128, Try.sizeOf140]⟩⟩
instance : IsFld Try.prog 143 0 0 1 := ⟨⟨_, _, Try.underlying143, rfl, rfl, Try.sizeOf128, by decide⟩⟩
instance : IsFld Try.prog 143 1 1 1 := ⟨⟨_, _, Try.underlying143, rfl, rfl, Try.sizeOf140, by decide⟩⟩
instance : IsVar Try.prog 144 true 2 := ⟨Try.isAgg144, Try.sizeOf144⟩
instance : IsNew Try.prog 144 [vlit (.nilFunc), vlit (.nilFunc)] := ⟨⟨_, Try.zeroValue144, fun _ => .cons rfl (.cons rfl (.nil))⟩⟩
instance : IsStruct Try.prog 144 [(0, 1), (1, 1)] := ⟨⟨_, Try.underlying144, fun w => by simp [Try.sizeOf128, Try.sizeOf140]⟩⟩
instance : IsFld Try.prog 144 0 0 1 := ⟨⟨_, _, Try.underlying144, rfl, rfl, Try.sizeOf128, by decide⟩⟩
instance : IsFld Try.prog 144 1 1 1 := ⟨⟨_, _, Try.underlying144, rfl, rfl, Try.sizeOf140, by decide⟩⟩
instance : IsVar Try.prog 145 false 1 := ⟨Try.isAgg145, Try.sizeOf145⟩
instance : IsNew Try.prog 145 [vlit (.nilFunc)] := ⟨⟨_, Try.zeroValue145, fun _ => .cons rfl (.nil)⟩⟩
instance : IsVar Try.prog 146 false 1 := ⟨Try.isAgg146, Try.sizeOf146⟩
instance : IsNew Try.prog 146 [vlit (.nilFunc)] := ⟨⟨_, Try.zeroValue146, fun _ => .cons rfl (.nil)⟩⟩
instance : IsVar Try.prog 147 false 1 := ⟨Try.isAgg147, Try.sizeOf147⟩
instance : IsNew Try.prog 147 [vlit (.nilFunc)] := ⟨⟨_, Try.zeroValue147, fun _ => .cons rfl (.nil)⟩⟩
instance : IsVar Try.prog 148 false 1 := ⟨Try.isAgg148, Try.sizeOf148⟩
instance : IsNew Try.prog 148 [vlit (.nilFunc)] := ⟨⟨_, Try.zeroValue148, fun _ => .cons rfl (.nil)⟩⟩
instance : IsVar Try.prog 149 true 1 := ⟨Try.isAgg149, Try.sizeOf149⟩
instance : IsNew Try.prog 149 [vlit (.pointer none)] := ⟨⟨_, Try.zeroValue149, fun _ => .cons rfl (.nil)⟩⟩
instance : IsStruct Try.prog 149 [(0, 1)] := ⟨⟨_, Try.underlying149, fun w => by simp [Try.sizeOf17]⟩⟩
instance : IsFld Try.prog 149 0 0 1 := ⟨⟨_, _, Try.underlying149, rfl, rfl, Try.sizeOf17, by decide⟩⟩
instance : IsVar Try.prog 150 true 1 := ⟨Try.isAgg150, Try.sizeOf150⟩
instance : IsNew Try.prog 150 [vlit (.pointer none)] := ⟨⟨_, Try.zeroValue150, fun _ => .cons rfl (.nil)⟩⟩
instance : IsStruct Try.prog 150 [(0, 1)] := ⟨⟨_, Try.underlying150, fun w => by simp [Try.sizeOf17]⟩⟩
instance : IsFld Try.prog 150 0 0 1 := ⟨⟨_, _, Try.underlying150, rfl, rfl, Try.sizeOf17, by decide⟩⟩
instance : IsVar Try.prog 151 false 1 := ⟨Try.isAgg151, Try.sizeOf151⟩
instance : IsNew Try.prog 151 [vlit (.pointer none)] := ⟨⟨_, Try.zeroValue151, fun _ => .cons rfl (.nil)⟩⟩
instance : IsVar Try.prog 152 false 1 := ⟨Try.isAgg152, Try.sizeOf152⟩
instance : IsNew Try.prog 152 [vlit (.nilFunc)] := ⟨⟨_, Try.zeroValue152, fun _ => .cons rfl (.nil)⟩⟩
instance : IsVar Try.prog 153 false 1 := ⟨Try.isAgg153, Try.sizeOf153⟩
instance : IsNew Try.prog 153 [vlit (.nilFunc)] := ⟨⟨_, Try.zeroValue153, fun _ => .cons rfl (.nil)⟩⟩
instance : IsVar Try.prog 154 false 1 := ⟨Try.isAgg154, Try.sizeOf154⟩
instance : IsNew Try.prog 154 [vlit (.nilFunc)] := ⟨⟨_, Try.zeroValue154, fun _ => .cons rfl (.nil)⟩⟩
instance : IsVar Try.prog 155 false 1 := ⟨Try.isAgg155, Try.sizeOf155⟩
instance : IsNew Try.prog 155 [vlit (.pointer none)] := ⟨⟨_, Try.zeroValue155, fun _ => .cons rfl (.nil)⟩⟩
instance : IsVar Try.prog 156 true 7 := ⟨Try.isAgg156, Try.sizeOf156⟩
instance : IsNew Try.prog 156 [vlit (.int .i64 0), vlit (.slice none 0 0), vlit (.int .i64 0), vlit (.slice none 0 0), vlit (.bool false), vlit (.int .i64 0), vlit (.nilFunc)] := ⟨⟨_, Try.zeroValue156, fun _ => .cons rfl (.cons rfl (.cons rfl (.cons rfl (.cons rfl (.cons rfl (.cons rfl (.nil)))))))⟩⟩
instance : IsStruct Try.prog 156 [(0, 2), (2, 2), (4, 1), (5, 1), (6, 1)] := ⟨⟨_, Try.underlying156, fun w => by simp [Try.sizeOf3, Try.sizeOf4, Try.sizeOf56, Try.sizeOf133]⟩⟩
instance : IsFld Try.prog 156 0 0 2 := ⟨⟨_, _, Try.underlying156, rfl, rfl, Try.sizeOf56, by decide⟩⟩
instance : IsFld Try.prog 156 1 2 2 := ⟨⟨_, _, Try.underlying156, rfl, rfl, Try.sizeOf56, by decide⟩⟩
instance : IsFld Try.prog 156 2 4 1 := ⟨⟨_, _, Try.underlying156, rfl, rfl, Try.sizeOf4, by decide⟩⟩
instance : IsFld Try.prog 156 3 5 1 := ⟨⟨_, _, Try.underlying156, rfl, rfl, Try.sizeOf3, by decide⟩⟩
instance : IsFld Try.prog 156 4 6 1 := ⟨⟨_, _, Try.underlying156, rfl, rfl, Try.sizeOf133, by decide⟩⟩
instance : IsVar Try.prog 157 true 7 := ⟨Try.isAgg157, Try.sizeOf157⟩
instance : IsNew Try.prog 157 [vlit (.int .i64 0), vlit (.slice none 0 0), vlit (.int .i64 0), vlit (.slice none 0 0), vlit (.bool false), vlit (.int .i64 0), vlit (.nilFunc)] := ⟨⟨_, Try.zeroValue157, fun _ => .cons rfl (.cons rfl (.cons rfl (.cons rfl (.cons rfl (.cons rfl (.cons rfl (.nil)))))))⟩⟩
instance : IsStruct Try.prog 157 [(0, 2), (2, 2), (4, 1), (5, 1), (6, 1)] := ⟨⟨_, Try.underlying157, fun w => by simp [Try.sizeOf3, Try.sizeOf4, Try.sizeOf56, Try.sizeOf133]⟩⟩
instance : IsFld Try.prog 157 0 0 2 := ⟨⟨_, _, Try.underlying157, rfl, rfl, Try.sizeOf56, by decide⟩⟩
instance : IsFld Try.prog 157 1 2 2 := ⟨⟨_, _, Try.underlying157, rfl, rfl, Try.sizeOf56, by decide⟩⟩
instance : IsFld Try.prog 157 2 4 1 := ⟨⟨_, _, Try.underlying157, rfl, rfl, Try.sizeOf4, by decide⟩⟩
instance : IsFld Try.prog 157 3 5 1 := ⟨⟨_, _, Try.underlying157, rfl, rfl, Try.sizeOf3, by decide⟩⟩
instance : IsFld Try.prog 157 4 6 1 := ⟨⟨_, _, Try.underlying157, rfl, rfl, Try.sizeOf133, by decide⟩⟩
instance : IsVar Try.prog 158 false 1 := ⟨Try.isAgg158, Try.sizeOf158⟩
instance : IsNew Try.prog 158 [vlit (.nilFunc)] := ⟨⟨_, Try.zeroValue158, fun _ => .cons rfl (.nil)⟩⟩
instance : IsVar Try.prog 159 false 1 := ⟨Try.isAgg159, Try.sizeOf159⟩
instance : IsNew Try.prog 159 [vlit (.nilFunc)] := ⟨⟨_, Try.zeroValue159, fun _ => .cons rfl (.nil)⟩⟩
instance : IsVar Try.prog 160 false 1 := ⟨Try.isAgg160, Try.sizeOf160⟩
instance : IsNew Try.prog 160 [vlit (.nilFunc)] := ⟨⟨_, Try.zeroValue160, fun _ => .cons rfl (.nil)⟩⟩
instance : IsVar Try.prog 161 false 1 := ⟨Try.isAgg161, Try.sizeOf161⟩
instance : IsNew Try.prog 161 [vlit (.nilFunc)] := ⟨⟨_, Try.zeroValue161, fun _ => .cons rfl (.nil)⟩⟩
instance : IsVar Try.prog 162 true 4 := ⟨Try.isAgg162, Try.sizeOf162⟩
instance : IsNew Try.prog 162 [vlit (.pointer none), vlit (.pointer none), vlit (.pointer none), vlit (.string .empty)] := ⟨⟨_, Try.zeroValue162, fun _ => .cons rfl (.cons rfl (.cons rfl (.cons rfl (.nil))))⟩⟩
instance : IsStruct Try.prog 162 [(0, 1), (1, 1), (2, 1), (3, 1)] := ⟨⟨_, Try.underlying162, fun w => by simp [Try.sizeOf9, Try.sizeOf17]⟩⟩
instance : IsFld Try.prog 162 0 0 1 := ⟨⟨_, _, Try.underlying162, rfl, rfl, Try.sizeOf17, by decide⟩⟩
instance : IsFld Try.prog 162 1 1 1 := ⟨⟨_, _, Try.underlying162, rfl, rfl, Try.sizeOf17, by decide⟩⟩
instance : IsFld Try.prog 162 2 2 1 := ⟨⟨_, _, Try.underlying162, rfl, rfl, Try.sizeOf17, by decide⟩⟩
instance : IsFld Try.prog 162 3 3 1 := ⟨⟨_, _, Try.underlying162, rfl, rfl, Try.sizeOf9, by decide⟩⟩
instance : IsVar Try.prog 163 true 4 := ⟨Try.isAgg163, Try.sizeOf163⟩
instance : IsNew Try.prog 163 [vlit (.pointer none), vlit (.pointer none), vlit (.pointer none), vlit (.string .empty)] := ⟨⟨_, Try.zeroValue163, fun _ => .cons rfl (.cons rfl (.cons rfl (.cons rfl (.nil))))⟩⟩
instance : IsStruct Try.prog 163 [(0, 1), (1, 1), (2, 1), (3, 1)] := ⟨⟨_, Try.underlying163, fun w => by simp [Try.sizeOf9, Try.sizeOf17]⟩⟩
instance : IsFld Try.prog 163 0 0 1 := ⟨⟨_, _, Try.underlying163, rfl, rfl, Try.sizeOf17, by decide⟩⟩
instance : IsFld Try.prog 163 1 1 1 := ⟨⟨_, _, Try.underlying163, rfl, rfl, Try.sizeOf17, by decide⟩⟩
instance : IsFld Try.prog 163 2 2 1 := ⟨⟨_, _, Try.underlying163, rfl, rfl, Try.sizeOf17, by decide⟩⟩
instance : IsFld Try.prog 163 3 3 1 := ⟨⟨_, _, Try.underlying163, rfl, rfl, Try.sizeOf9, by decide⟩⟩
instance : IsVar Try.prog 164 true 0 := ⟨Try.isAgg164, Try.sizeOf164⟩
instance : IsNew Try.prog 164 [] := ⟨⟨_, Try.zeroValue164, fun _ => .nil⟩⟩
instance : IsVar Try.prog 165 true 0 := ⟨Try.isAgg165, Try.sizeOf165⟩
instance : IsNew Try.prog 165 [] := ⟨⟨_, Try.zeroValue165, fun _ => .nil⟩⟩
instance : IsVar Try.prog 166 true 0 := ⟨Try.isAgg166, Try.sizeOf166⟩
instance : IsNew Try.prog 166 [] := ⟨⟨_, Try.zeroValue166, fun _ => .nil⟩⟩
instance : IsVar Try.prog 167 false 1 := ⟨Try.isAgg167, Try.sizeOf167⟩
instance : IsNew Try.prog 167 [vlit (.int .u32 0)] := ⟨⟨_, Try.zeroValue167, fun _ => .cons rfl (.nil)⟩⟩
instance : IsVar Try.prog 168 false 1 := ⟨Try.isAgg168, Try.sizeOf168⟩
instance : IsNew Try.prog 168 [vlit (.int .u8 0)] := ⟨⟨_, Try.zeroValue168, fun _ => .cons rfl (.nil)⟩⟩
instance : IsU8 Try.prog 168 := ⟨Try.underlying168⟩
instance : IsVar Try.prog 169 false 1 := ⟨Try.isAgg169, Try.sizeOf169⟩
instance : IsNew Try.prog 169 [vlit (.int .u8 0)] := ⟨⟨_, Try.zeroValue169, fun _ => .cons rfl (.nil)⟩⟩
instance : IsU8 Try.prog 169 := ⟨Try.underlying169⟩
instance : IsVar Try.prog 170 false 1 := ⟨Try.isAgg170, Try.sizeOf170⟩
instance : IsNew Try.prog 170 [vlit (.nilFunc)] := ⟨⟨_, Try.zeroValue170, fun _ => .cons rfl (.nil)⟩⟩
instance : IsVar Try.prog 171 false 1 := ⟨Try.isAgg171, Try.sizeOf171⟩
instance : IsNew Try.prog 171 [vlit (.pointer none)] := ⟨⟨_, Try.zeroValue171, fun _ => .cons rfl (.nil)⟩⟩
instance : IsVar Try.prog 172 false 1 := ⟨Try.isAgg172, Try.sizeOf172⟩
instance : IsNew Try.prog 172 [vlit (.int .i32 0)] := ⟨⟨_, Try.zeroValue172, fun _ => .cons rfl (.nil)⟩⟩
instance : IsVar Try.prog 173 false 1 := ⟨Try.isAgg173, Try.sizeOf173⟩
instance : IsNew Try.prog 173 [vlit (.int .i32 0)] := ⟨⟨_, Try.zeroValue173, fun _ => .cons rfl (.nil)⟩⟩
instance : IsVar Try.prog 174 true 11 := ⟨Try.isAgg174, Try.sizeOf174⟩
instance : IsNew Try.prog 174 [vlit (.int .u64 0), vlit (.int .u64 0), vlit (.int .u32 0), vlit (.int .u8 0), vlit (.int .u8 0), vlit (.int .u8 0), vlit (.int .u8 0), vlit (.nilFunc), vlit (.pointer none), vlit (.int .i32 0), vlit (.int .i32 0)] := ⟨⟨_, Try.zeroValue174, fun _ => .cons rfl (.cons rfl (.cons rfl (.cons rfl (.cons rfl (.cons rfl (.cons rfl (.cons rfl (.cons rfl (.cons rfl (.cons rfl (.nil)))))))))))⟩⟩
instance : IsStruct Try.prog 174 [(0, 1), (1, 1), (2, 1), (3, 1), (4, 1), (5, 1), (6, 1), (7, 1), (8, 1), (9, 1), (10, 1)] := ⟨⟨_, Try.underlying174, fun w => by simp [Try.sizeOf5, Try.sizeOf12, Try.sizeOf167, Try.sizeOf168, Try.sizeOf169, Try.sizeOf170, Try.sizeOf171, Try.sizeOf172, Try.sizeOf173]⟩⟩
instance : IsFld Try.prog 174 0 0 1 := ⟨⟨_, _, Try.underlying174, rfl, rfl, Try.sizeOf12, by decide⟩⟩
instance : IsFld Try.prog 174 1 1 1 := ⟨⟨_, _, Try.underlying174, rfl, rfl, Try.sizeOf12, by decide⟩⟩
instance : IsFld Try.prog 174 2 2 1 := ⟨⟨_, _, Try.underlying174, rfl, rfl, Try.sizeOf167, by decide⟩⟩
instance : IsFld Try.prog 174 3 3 1 := ⟨⟨_, _, Try.underlying174, rfl, rfl, Try.sizeOf168, by decide⟩⟩
instance : IsFld Try.prog 174 4 4 1 := ⟨⟨_, _, Try.underlying174, rfl, rfl, Try.sizeOf5, by decide⟩⟩
instance : IsFld Try.prog 174 5 5 1 := ⟨⟨_, _, Try.underlying174, rfl, rfl, Try.sizeOf5, by decide⟩⟩
instance : IsFld Try.prog 174 6 6 1 := ⟨⟨_, _, Try.underlying174, rfl, rfl, Try.sizeOf169, by decide⟩⟩
instance : IsFld Try.prog 174 7 7 1 := ⟨⟨_, _, Try.underlying174, rfl, rfl, Try.sizeOf170, by decide⟩⟩
instance : IsFld Try.prog 174 8 8 1 := ⟨⟨_, _, Try.underlying174, rfl, rfl, Try.sizeOf171, by decide⟩⟩
instance : IsFld Try.prog 174 9 9 1 := ⟨⟨_, _, Try.underlying174, rfl, rfl, Try.sizeOf172, by decide⟩⟩
instance : IsFld Try.prog 174 10 10 1 := ⟨⟨_, _, Try.underlying174, rfl, rfl, Try.sizeOf173, by decide⟩⟩
instance : IsVar Try.prog 175 true 11 := ⟨Try.isAgg175, Try.sizeOf175⟩
instance : IsNew Try.prog 175 [vlit (.int .u64 0), vlit (.int .u64 0), vlit (.int .u32 0), vlit (.int .u8 0), vlit (.int .u8 0), vlit (.int .u8 0), vlit (.int .u8 0), vlit (.nilFunc), vlit (.pointer none), vlit (.int .i32 0), vlit (.int .i32 0)] := ⟨⟨_, Try.zeroValue175, fun _ => .cons rfl (.cons rfl (.cons rfl (.cons rfl (.cons rfl (.cons rfl (.cons rfl (.cons rfl (.cons rfl (.cons rfl (.cons rfl (.nil)))))))))))⟩⟩
instance : IsStruct Try.prog 175 [(0, 1), (1, 1), (2, 1), (3, 1), (4, 1), (5, 1), (6, 1), (7, 1), (8, 1), (9, 1), (10, 1)] := ⟨⟨_, Try.underlying175, fun w => by simp [Try.sizeOf5, Try.sizeOf12, Try.sizeOf167, Try.sizeOf168, Try.sizeOf169, Try.sizeOf170, Try.sizeOf171, Try.sizeOf172, Try.sizeOf173]⟩⟩
instance : IsFld Try.prog 175 0 0 1 := ⟨⟨_, _, Try.underlying175, rfl, rfl, Try.sizeOf12, by decide⟩⟩
instance : IsFld Try.prog 175 1 1 1 := ⟨⟨_, _, Try.underlying175, rfl, rfl, Try.sizeOf12, by decide⟩⟩
instance : IsFld Try.prog 175 2 2 1 := ⟨⟨_, _, Try.underlying175, rfl, rfl, Try.sizeOf167, by decide⟩⟩
instance : IsFld Try.prog 175 3 3 1 := ⟨⟨_, _, Try.underlying175, rfl, rfl, Try.sizeOf168, by decide⟩⟩
instance : IsFld Try.prog 175 4 4 1 := ⟨⟨_, _, Try.underlying175, rfl, rfl, Try.sizeOf5, by decide⟩⟩
instance : IsFld Try.prog 175 5 5 1 := ⟨⟨_, _, Try.underlying175, rfl, rfl, Try.sizeOf5, by decide⟩⟩
instance : IsFld Try.prog 175 6 6 1 := ⟨⟨_, _, Try.underlying175, rfl, rfl, Try.sizeOf169, by decide⟩⟩
instance : IsFld Try.prog 175 7 7 1 := ⟨⟨_, _, Try.underlying175, rfl, rfl, Try.sizeOf170, by decide⟩⟩
instance : IsFld Try.prog 175 8 8 1 := ⟨⟨_, _, Try.underlying175, rfl, rfl, Try.sizeOf171, by decide⟩⟩
instance : IsFld Try.prog 175 9 9 1 := ⟨⟨_, _, Try.underlying175, rfl, rfl, Try.sizeOf172, by decide⟩⟩
instance : IsFld Try.prog 175 10 10 1 := ⟨⟨_, _, Try.underlying175, rfl, rfl, Try.sizeOf173, by decide⟩⟩
instance : IsVar Try.prog 176 true 2 := ⟨Try.isAgg176, Try.sizeOf176⟩
instance : IsNew Try.prog 176 [vlit (.string .empty), vlit (.int .u8 0)] := ⟨⟨_, Try.zeroValue176, fun _ => .cons rfl (.cons rfl (.nil))⟩⟩
instance : IsStruct Try.prog 176 [(0, 1), (1, 1)] := ⟨⟨_, Try.underlying176, fun w => by simp [Try.sizeOf9, Try.sizeOf169]⟩⟩
instance : IsFld Try.prog 176 0 0 1 := ⟨⟨_, _, Try.underlying176, rfl, rfl, Try.sizeOf9, by decide⟩⟩
instance : IsFld Try.prog 176 1 1 1 := ⟨⟨_, _, Try.underlying176, rfl, rfl, Try.sizeOf169, by decide⟩⟩
instance : IsVar Try.prog 177 true 2 := ⟨Try.isAgg177, Try.sizeOf177⟩
instance : IsNew Try.prog 177 [vlit (.string .empty), vlit (.int .u8 0)] := ⟨⟨_, Try.zeroValue177, fun _ => .cons rfl (.cons rfl (.nil))⟩⟩
instance : IsStruct Try.prog 177 [(0, 1), (1, 1)] := ⟨⟨_, Try.underlying177, fun w => by simp [Try.sizeOf9, Try.sizeOf169]⟩⟩
instance : IsFld Try.prog 177 0 0 1 := ⟨⟨_, _, Try.underlying177, rfl, rfl, Try.sizeOf9, by decide⟩⟩
instance : IsFld Try.prog 177 1 1 1 := ⟨⟨_, _, Try.underlying177, rfl, rfl, Try.sizeOf169, by decide⟩⟩
end Go.Proofs.Ytodlpdedldhebaa
