/- The facts on the types of this translation, as class instances. No conditions. -/
import Derived.Test.YtkelbadedagcaaaProg
import Derived.KernelRfl
import Derived.Test.YtkelbadedagcaaaCoreZ
namespace Go.Proofs.Ytkelbadedagcaaa
open Go Go.Proofs

instance : IsVar Try.prog 1 false 1 := ⟨Try.isAgg1, Try.sizeOf1⟩
instance : IsNew Try.prog 1 [vlit (.nilFunc)] := ⟨⟨_, Try.zeroValue1, fun _ => .cons rfl (.nil)⟩⟩
instance : IsVar Try.prog 2 false 1 := ⟨Try.isAgg2, Try.sizeOf2⟩
instance : IsNew Try.prog 2 [vlit (.int .i64 0)] := ⟨⟨_, Try.zeroValue2, fun _ => .cons rfl (.nil)⟩⟩
instance : IsI64 Try.prog 2 := ⟨Try.underlying2⟩
instance : IsVar Try.prog 3 false 1 := ⟨Try.isAgg3, Try.sizeOf3⟩
instance : IsNew Try.prog 3 [vlit (.int .i64 0)] := ⟨⟨_, Try.zeroValue3, fun _ => .cons rfl (.nil)⟩⟩
instance : IsI64 Try.prog 3 := ⟨Try.underlying3⟩
instance : IsVar Try.prog 4 false 1 := ⟨Try.isAgg4, Try.sizeOf4⟩
instance : IsNew Try.prog 4 [vlit (.bool false)] := ⟨⟨_, Try.zeroValue4, fun _ => .cons rfl (.nil)⟩⟩
instance : IsBool Try.prog 4 := ⟨Try.underlying4⟩
instance : IsVar Try.prog 5 false 1 := ⟨Try.isAgg5, Try.sizeOf5⟩
instance : IsNew Try.prog 5 [vlit (.int .u8 0)] := ⟨⟨_, Try.zeroValue5, fun _ => .cons rfl (.nil)⟩⟩
instance : IsU8 Try.prog 5 := ⟨Try.underlying5⟩
instance : IsVar Try.prog 6 false 1 := ⟨Try.isAgg6, Try.sizeOf6⟩
instance : IsNew Try.prog 6 [vlit (.int .u8 0)] := ⟨⟨_, Try.zeroValue6, fun _ => .cons rfl (.nil)⟩⟩
instance : IsU8 Try.prog 6 := ⟨Try.underlying6⟩
instance : IsVar Try.prog 7 true 4 := ⟨Try.isAgg7, Try.sizeOf7⟩
instance : IsNew Try.prog 7 [vlit (.int .i64 0), vlit (.int .i64 0), vlit (.bool false), vlit (.int .u8 0)] := ⟨⟨_, Try.zeroValue7, fun _ => .cons rfl (.cons rfl (.cons rfl (.cons rfl (.nil))))⟩⟩
instance : IsStruct Try.prog 7 [(0, 1), (1, 1), (2, 1), (3, 1)] := ⟨⟨_, Try.underlying7, fun w => by simp [Try.sizeOf2, Try.sizeOf3, Try.sizeOf4, Try.sizeOf6]⟩⟩
instance : IsFld Try.prog 7 0 0 1 := ⟨⟨_, _, Try.underlying7, rfl, rfl, Try.sizeOf2, by decide⟩⟩
instance : IsFld Try.prog 7 1 1 1 := ⟨⟨_, _, Try.underlying7, rfl, rfl, Try.sizeOf3, by decide⟩⟩
instance : IsFld Try.prog 7 2 2 1 := ⟨⟨_, _, Try.underlying7, rfl, rfl, Try.sizeOf4, by decide⟩⟩
instance : IsFld Try.prog 7 3 3 1 := ⟨⟨_, _, Try.underlying7, rfl, rfl, Try.sizeOf6, by decide⟩⟩
instance : IsVar Try.prog 8 true 4 := ⟨Try.isAgg8, Try.sizeOf8⟩
instance : IsNew Try.prog 8 [vlit (.int .i64 0), vlit (.int .i64 0), vlit (.bool false), vlit (.int .u8 0)] := ⟨⟨_, Try.zeroValue8, fun _ => .cons rfl (.cons rfl (.cons rfl (.cons rfl (.nil))))⟩⟩
instance : IsStruct Try.prog 8 [(0, 1), (1, 1), (2, 1), (3, 1)] := ⟨⟨_, Try.underlying8, fun w => by simp [Try.sizeOf2, Try.sizeOf3, Try.sizeOf4, Try.sizeOf6]⟩⟩
instance : IsFld Try.prog 8 0 0 1 := ⟨⟨_, _, Try.underlying8, rfl, rfl, Try.sizeOf2, by decide⟩⟩
instance : IsFld Try.prog 8 1 1 1 := ⟨⟨_, _, Try.underlying8, rfl, rfl, Try.sizeOf3, by decide⟩⟩
instance : IsFld Try.prog 8 2 2 1 := ⟨⟨_, _, Try.underlying8, rfl, rfl, Try.sizeOf4, by decide⟩⟩
instance : IsFld Try.prog 8 3 3 1 := ⟨⟨_, _, Try.underlying8, rfl, rfl, Try.sizeOf6, by decide⟩⟩
instance : IsVar Try.prog 9 false 1 := ⟨Try.isAgg9, Try.sizeOf9⟩
instance : IsNew Try.prog 9 [vlit (.string .empty)] := ⟨⟨_, Try.zeroValue9, fun _ => .cons rfl (.nil)⟩⟩
instance : IsStr Try.prog 9 := ⟨Try.underlying9⟩
instance : IsVar Try.prog 10 false 1 := ⟨Try.isAgg10, Try.sizeOf10⟩
instance : IsNew Try.prog 10 [vlit (.string .empty)] := ⟨⟨_, Try.zeroValue10, fun _ => .cons rfl (.nil)⟩⟩
instance : IsStr Try.prog 10 := ⟨Try.underlying10⟩
instance : IsVar Try.prog 11 false 1 := ⟨Try.isAgg11, Try.sizeOf11⟩
instance : IsNew Try.prog 11 [vlit (.string .empty)] := ⟨⟨_, Try.zeroValue11, fun _ => .cons rfl (.nil)⟩⟩
instance : IsStr Try.prog 11 := ⟨Try.underlying11⟩
instance : IsVar Try.prog 12 false 1 := ⟨Try.isAgg12, Try.sizeOf12⟩
instance : IsNew Try.prog 12 [vlit (.int .u64 0)] := ⟨⟨_, Try.zeroValue12, fun _ => .cons rfl (.nil)⟩⟩
instance : IsU64 Try.prog 12 := ⟨Try.underlying12⟩
instance : IsVar Try.prog 13 true 2 := ⟨Try.isAgg13, Try.sizeOf13⟩
instance : IsNew Try.prog 13 [vlit (.string .empty), vlit (.int .u64 0)] := ⟨⟨_, Try.zeroValue13, fun _ => .cons rfl (.cons rfl (.nil))⟩⟩
instance : IsStruct Try.prog 13 [(0, 1), (1, 1)] := ⟨⟨_, Try.underlying13, fun w => by simp [Try.sizeOf9, Try.sizeOf12]⟩⟩
instance : IsFld Try.prog 13 0 0 1 := ⟨⟨_, _, Try.underlying13, rfl, rfl, Try.sizeOf9, by decide⟩⟩
instance : IsFld Try.prog 13 1 1 1 := ⟨⟨_, _, Try.underlying13, rfl, rfl, Try.sizeOf12, by decide⟩⟩
instance : IsVar Try.prog 14 true 2 := ⟨Try.isAgg14, Try.sizeOf14⟩
instance : IsNew Try.prog 14 [vlit (.string .empty), vlit (.int .u64 0)] := ⟨⟨_, Try.zeroValue14, fun _ => .cons rfl (.cons rfl (.nil))⟩⟩
instance : IsStruct Try.prog 14 [(0, 1), (1, 1)] := ⟨⟨_, Try.underlying14, fun w => by simp [Try.sizeOf9, Try.sizeOf12]⟩⟩
instance : IsFld Try.prog 14 0 0 1 := ⟨⟨_, _, Try.underlying14, rfl, rfl, Try.sizeOf9, by decide⟩⟩
instance : IsFld Try.prog 14 1 1 1 := ⟨⟨_, _, Try.underlying14, rfl, rfl, Try.sizeOf12, by decide⟩⟩
instance : IsVar Try.prog 15 false 1 := ⟨Try.isAgg15, Try.sizeOf15⟩
instance : IsNew Try.prog 15 [vlit (.pointer none)] := ⟨⟨_, Try.zeroValue15, fun _ => .cons rfl (.nil)⟩⟩
instance : IsVar Try.prog 16 false 1 := ⟨Try.isAgg16, Try.sizeOf16⟩
instance : IsNew Try.prog 16 [vlit (.pointer none)] := ⟨⟨_, Try.zeroValue16, fun _ => .cons rfl (.nil)⟩⟩
instance : IsVar Try.prog 17 false 1 := ⟨Try.isAgg17, Try.sizeOf17⟩
instance : IsNew Try.prog 17 [vlit (.pointer none)] := ⟨⟨_, Try.zeroValue17, fun _ => .cons rfl (.nil)⟩⟩
instance : IsVar Try.prog 18 true 1 := ⟨Try.isAgg18, Try.sizeOf18⟩
instance : IsNew Try.prog 18 [vlit (.pointer none)] := ⟨⟨_, Try.zeroValue18, fun _ => .cons rfl (.nil)⟩⟩
instance : IsStruct Try.prog 18 [(0, 1)] := ⟨⟨_, Try.underlying18, fun w => by simp [Try.sizeOf17]⟩⟩
instance : IsFld Try.prog 18 0 0 1 := ⟨⟨_, _, Try.underlying18, rfl, rfl, Try.sizeOf17, by decide⟩⟩
instance : IsVar Try.prog 19 true 1 := ⟨Try.isAgg19, Try.sizeOf19⟩
instance : IsNew Try.prog 19 [vlit (.pointer none)] := ⟨⟨_, Try.zeroValue19, fun _ => .cons rfl (.nil)⟩⟩
instance : IsStruct Try.prog 19 [(0, 1)] := ⟨⟨_, Try.underlying19, fun w => by simp [Try.sizeOf17]⟩⟩
instance : IsFld Try.prog 19 0 0 1 := ⟨⟨_, _, Try.underlying19, rfl, rfl, Try.sizeOf17, by decide⟩⟩
instance : IsVar Try.prog 21 false 1 := ⟨Try.isAgg21, Try.sizeOf21⟩
instance : IsNew Try.prog 21 [vlit (.int .i32 0)] := ⟨⟨_, Try.zeroValue21, fun _ => .cons rfl (.nil)⟩⟩
instance : IsVar Try.prog 22 false 1 := ⟨Try.isAgg22, Try.sizeOf22⟩
instance : IsNew Try.prog 22 [vlit (.slice none 0 0)] := ⟨⟨_, Try.zeroValue22, fun _ => .cons rfl (.nil)⟩⟩
instance : IsSl Try.prog 22 43 2 := ⟨Try.underlying22, Try.sizeOf43⟩
instance : IsSlM Try.prog 22 43 2 32 (.agg #[.int .i64 0, .slice none 0 0]) := ⟨⟨Try.t43, Try.underlying22, by kernel_rfl, rfl, rfl, rfl, rfl, by decide⟩⟩
instance : IsVar Try.prog 23 true 2 := ⟨Try.isAgg23, Try.sizeOf23⟩
instance : IsNew Try.prog 23 [vlit (.int .i64 0), vlit (.slice none 0 0)] := ⟨⟨_, Try.zeroValue23, fun _ => .cons rfl (.cons rfl (.nil))⟩⟩
instance : IsStruct Try.prog 23 [(0, 1), (1, 1)] := ⟨⟨_, Try.underlying23, fun w => by simp [Try.sizeOf3, Try.sizeOf22]⟩⟩
instance : IsFld Try.prog 23 0 0 1 := ⟨⟨_, _, Try.underlying23, rfl, rfl, Try.sizeOf3, by decide⟩⟩
instance : IsFld Try.prog 23 1 1 1 := ⟨⟨_, _, Try.underlying23, rfl, rfl, Try.sizeOf22, by decide⟩⟩
instance : IsVar Try.prog 24 true 2 := ⟨Try.isAgg24, Try.sizeOf24⟩
instance : IsNew Try.prog 24 [vlit (.int .i64 0), vlit (.slice none 0 0)] := ⟨⟨_, Try.zeroValue24, fun _ => .cons rfl (.cons rfl (.nil))⟩⟩
instance : IsStruct Try.prog 24 [(0, 1), (1, 1)] := ⟨⟨_, Try.underlying24, fun w => by simp [Try.sizeOf3, Try.sizeOf22]⟩⟩
instance : IsFld Try.prog 24 0 0 1 := ⟨⟨_, _, Try.underlying24, rfl, rfl, Try.sizeOf3, by decide⟩⟩
instance : IsFld Try.prog 24 1 1 1 := ⟨⟨_, _, Try.underlying24, rfl, rfl, Try.sizeOf22, by decide⟩⟩
instance : IsVar Try.prog 25 false 1 := ⟨Try.isAgg25, Try.sizeOf25⟩
instance : IsNew Try.prog 25 [vlit (.slice none 0 0)] := ⟨⟨_, Try.zeroValue25, fun _ => .cons rfl (.nil)⟩⟩
instance : IsSl Try.prog 25 41 1 := ⟨Try.underlying25, Try.sizeOf41⟩
instance : IsSlM Try.prog 25 41 1 24 (.slice none 0 0) := ⟨⟨Try.t41, Try.underlying25, by kernel_rfl, rfl, rfl, rfl, rfl, by decide⟩⟩
instance : IsVar Try.prog 26 true 2 := ⟨Try.isAgg26, Try.sizeOf26⟩
instance : IsNew Try.prog 26 [vlit (.int .i64 0), vlit (.slice none 0 0)] := ⟨⟨_, Try.zeroValue26, fun _ => .cons rfl (.cons rfl (.nil))⟩⟩
instance : IsStruct Try.prog 26 [(0, 1), (1, 1)] := ⟨⟨_, Try.underlying26, fun w => by simp [Try.sizeOf3, Try.sizeOf25]⟩⟩
instance : IsFld Try.prog 26 0 0 1 := ⟨⟨_, _, Try.underlying26, rfl, rfl, Try.sizeOf3, by decide⟩⟩
instance : IsFld Try.prog 26 1 1 1 := ⟨⟨_, _, Try.underlying26, rfl, rfl, Try.sizeOf25, by decide⟩⟩
instance : IsVar Try.prog 27 true 2 := ⟨Try.isAgg27, Try.sizeOf27⟩
instance : IsNew Try.prog 27 [vlit (.int .i64 0), vlit (.slice none 0 0)] := ⟨⟨_, Try.zeroValue27, fun _ => .cons rfl (.cons rfl (.nil))⟩⟩
instance : IsStruct Try.prog 27 [(0, 1), (1, 1)] := ⟨⟨_, Try.underlying27, fun w => by simp [Try.sizeOf3, Try.sizeOf25]⟩⟩
instance : IsFld Try.prog 27 0 0 1 := ⟨⟨_, _, Try.underlying27, rfl, rfl, Try.sizeOf3, by decide⟩⟩
instance : IsFld Try.prog 27 1 1 1 := ⟨⟨_, _, Try.underlying27, rfl, rfl, Try.sizeOf25, by decide⟩⟩
instance : IsVar Try.prog 28 false 1 := ⟨Try.isAgg28, Try.sizeOf28⟩
instance : IsNew Try.prog 28 [vlit (.nilFunc)] := ⟨⟨_, Try.zeroValue28, fun _ => .cons rfl (.nil)⟩⟩
instance : IsVar Try.prog 29 false 1 := ⟨Try.isAgg29, Try.sizeOf29⟩
instance : IsNew Try.prog 29 [vlit (.nilFunc)] := ⟨⟨_, Try.zeroValue29, fun _ => .cons rfl (.nil)⟩⟩
instance : IsVar Try.prog 31 false 1 := ⟨Try.isAgg31, Try.sizeOf31⟩
instance : IsNew Try.prog 31 [vlit (.nilFunc)] := ⟨⟨_, Try.zeroValue31, fun _ => .cons rfl (.nil)⟩⟩
instance : IsVar Try.prog 32 false 1 := ⟨Try.isAgg32, Try.sizeOf32⟩
instance : IsNew Try.prog 32 [vlit (.slice none 0 0)] := ⟨⟨_, Try.zeroValue32, fun _ => .cons rfl (.nil)⟩⟩
instance : IsSl Try.prog 32 48 2 := ⟨Try.underlying32, Try.sizeOf48⟩
instance : IsSlM Try.prog 32 48 2 32 (.agg #[.int .i64 0, .slice none 0 0]) := ⟨⟨Try.t48, Try.underlying32, by kernel_rfl, rfl, rfl, rfl, rfl, by decide⟩⟩
instance : IsVar Try.prog 33 true 2 := ⟨Try.isAgg33, Try.sizeOf33⟩
instance : IsNew Try.prog 33 [vlit (.int .i64 0), vlit (.slice none 0 0)] := ⟨⟨_, Try.zeroValue33, fun _ => .cons rfl (.cons rfl (.nil))⟩⟩
instance : IsStruct Try.prog 33 [(0, 1), (1, 1)] := ⟨⟨_, Try.underlying33, fun w => by simp [Try.sizeOf3, Try.sizeOf32]⟩⟩
instance : IsFld Try.prog 33 0 0 1 := ⟨⟨_, _, Try.underlying33, rfl, rfl, Try.sizeOf3, by decide⟩⟩
instance : IsFld Try.prog 33 1 1 1 := ⟨⟨_, _, Try.underlying33, rfl, rfl, Try.sizeOf32, by decide⟩⟩
instance : IsVar Try.prog 34 true 2 := ⟨Try.isAgg34, Try.sizeOf34⟩
instance : IsNew Try.prog 34 [vlit (.int .i64 0), vlit (.slice none 0 0)] := ⟨⟨_, Try.zeroValue34, fun _ => .cons rfl (.cons rfl (.nil))⟩⟩
instance : IsStruct Try.prog 34 [(0, 1), (1, 1)] := ⟨⟨_, Try.underlying34, fun w => by simp [Try.sizeOf3, Try.sizeOf32]⟩⟩
instance : IsFld Try.prog 34 0 0 1 := ⟨⟨_, _, Try.underlying34, rfl, rfl, Try.sizeOf3, by decide⟩⟩
instance : IsFld Try.prog 34 1 1 1 := ⟨⟨_, _, Try.underlying34, rfl, rfl, Try.sizeOf32, by decide⟩⟩
instance : IsVar Try.prog 35 false 1 := ⟨Try.isAgg35, Try.sizeOf35⟩
instance : IsNew Try.prog 35 [vlit (.nilFunc)] := ⟨⟨_, Try.zeroValue35, fun _ => .cons rfl (.nil)⟩⟩
instance : IsVar Try.prog 36 true 2 := ⟨Try.isAgg36, Try.sizeOf36⟩
instance : IsNew Try.prog 36 [vlit (.int .i64 0), vlit (.slice none 0 0)] := ⟨⟨_, Try.zeroValue36, fun _ => .cons rfl (.cons rfl (.nil))⟩⟩
instance : IsStruct Try.prog 36 [(0, 1), (1, 1)] := ⟨⟨_, Try.underlying36, fun w => by simp [Try.sizeOf3, Try.sizeOf25]⟩⟩
instance : IsFld Try.prog 36 0 0 1 := ⟨⟨_, _, Try.underlying36, rfl, rfl, Try.sizeOf3, by decide⟩⟩
instance : IsFld Try.prog 36 1 1 1 := ⟨⟨_, _, Try.underlying36, rfl, rfl, Try.sizeOf25, by decide⟩⟩
instance : IsVar Try.prog 37 false 1 := ⟨Try.isAgg37, Try.sizeOf37⟩
instance : IsNew Try.prog 37 [vlit (.nilFunc)] := ⟨⟨_, Try.zeroValue37, fun _ => .cons rfl (.nil)⟩⟩
instance : IsVar Try.prog 38 false 1 := ⟨Try.isAgg38, Try.sizeOf38⟩
instance : IsNew Try.prog 38 [vlit (.nilFunc)] := ⟨⟨_, Try.zeroValue38, fun _ => .cons rfl (.nil)⟩⟩
instance : IsVar Try.prog 39 false 1 := ⟨Try.isAgg39, Try.sizeOf39⟩
instance : IsNew Try.prog 39 [vlit (.nilFunc)] := ⟨⟨_, Try.zeroValue39, fun _ => .cons rfl (.nil)⟩⟩
instance : IsVar Try.prog 40 false 1 := ⟨Try.isAgg40, Try.sizeOf40⟩
instance : IsNew Try.prog 40 [vlit (.nilFunc)] := ⟨⟨_, Try.zeroValue40, fun _ => .cons rfl (.nil)⟩⟩
instance : IsVar Try.prog 41 false 1 := ⟨Try.isAgg41, Try.sizeOf41⟩
instance : IsNew Try.prog 41 [vlit (.slice none 0 0)] := ⟨⟨_, Try.zeroValue41, fun _ => .cons rfl (.nil)⟩⟩
instance : IsSl Try.prog 41 3 1 := ⟨Try.underlying41, Try.sizeOf3⟩
instance : IsSlM Try.prog 41 3 1 8 (.int .i64 0) := ⟨⟨Try.t3, Try.underlying41, by kernel_rfl, rfl, rfl, rfl, rfl, by decide⟩⟩
instance : IsVar Try.prog 42 true 2 := ⟨Try.isAgg42, Try.sizeOf42⟩
instance : IsNew Try.prog 42 [vlit (.int .i64 0), vlit (.slice none 0 0)] := ⟨⟨_, Try.zeroValue42, fun _ => .cons rfl (.cons rfl (.nil))⟩⟩
instance : IsStruct Try.prog 42 [(0, 1), (1, 1)] := ⟨⟨_, Try.underlying42, fun w => by simp [Try.sizeOf3, Try.sizeOf41]⟩⟩
instance : IsFld Try.prog 42 0 0 1 := ⟨⟨_, _, Try.underlying42, rfl, rfl, Try.sizeOf3, by decide⟩⟩
instance : IsFld Try.prog 42 1 1 1 := ⟨⟨_, _, Try.underlying42, rfl, rfl, Try.sizeOf41, by decide⟩⟩
instance : IsVar Try.prog 43 true 2 := ⟨Try.isAgg43, Try.sizeOf43⟩
instance : IsNew Try.prog 43 [vlit (.int .i64 0), vlit (.slice none 0 0)] := ⟨⟨_, Try.zeroValue43, fun _ => .cons rfl (.cons rfl (.nil))⟩⟩
instance : IsStruct Try.prog 43 [(0, 1), (1, 1)] := ⟨⟨_, Try.underlying43, fun w => by simp [Try.sizeOf3, Try.sizeOf41]⟩⟩
instance : IsFld Try.prog 43 0 0 1 := ⟨⟨_, _, Try.underlying43, rfl, rfl, Try.sizeOf3, by decide⟩⟩
instance : IsFld Try.prog 43 1 1 1 := ⟨⟨_, _, Try.underlying43, rfl, rfl, Try.sizeOf41, by decide⟩⟩
instance : IsVar Try.prog 44 false 1 := ⟨Try.isAgg44, Try.sizeOf44⟩
instance : IsNew Try.prog 44 [vlit (.nilFunc)] := ⟨⟨_, Try.zeroValue44, fun _ => .cons rfl (.nil)⟩⟩
instance : IsVar Try.prog 45 false 1 := ⟨Try.isAgg45, Try.sizeOf45⟩
instance : IsNew Try.prog 45 [vlit (.slice none 0 0)] := ⟨⟨_, Try.zeroValue45, fun _ => .cons rfl (.nil)⟩⟩
instance : IsSl Try.prog 45 100 2 := ⟨Try.underlying45, Try.sizeOf100⟩
instance : IsSlM Try.prog 45 100 2 32 (.agg #[.int .i64 0, .slice none 0 0]) := ⟨⟨Try.t100, Try.underlying45, by kernel_rfl, rfl, rfl, rfl, rfl, by decide⟩⟩
instance : IsVar Try.prog 47 false 1 := ⟨Try.isAgg47, Try.sizeOf47⟩
instance : IsNew Try.prog 47 [vlit (.nilFunc)] := ⟨⟨_, Try.zeroValue47, fun _ => .cons rfl (.nil)⟩⟩
instance : IsVar Try.prog 48 true 2 := ⟨Try.isAgg48, Try.sizeOf48⟩
instance : IsNew Try.prog 48 [vlit (.int .i64 0), vlit (.slice none 0 0)] := ⟨⟨_, Try.zeroValue48, fun _ => .cons rfl (.cons rfl (.nil))⟩⟩
instance : IsStruct Try.prog 48 [(0, 1), (1, 1)] := ⟨⟨_, Try.underlying48, fun w => by simp [Try.sizeOf3, Try.sizeOf41]⟩⟩
instance : IsFld Try.prog 48 0 0 1 := ⟨⟨_, _, Try.underlying48, rfl, rfl, Try.sizeOf3, by decide⟩⟩
instance : IsFld Try.prog 48 1 1 1 := ⟨⟨_, _, Try.underlying48, rfl, rfl, Try.sizeOf41, by decide⟩⟩
instance : IsVar Try.prog 49 false 1 := ⟨Try.isAgg49, Try.sizeOf49⟩
instance : IsNew Try.prog 49 [vlit (.nilFunc)] := ⟨⟨_, Try.zeroValue49, fun _ => .cons rfl (.nil)⟩⟩
instance : IsVar Try.prog 50 false 1 := ⟨Try.isAgg50, Try.sizeOf50⟩
instance : IsNew Try.prog 50 [vlit (.nilFunc)] := ⟨⟨_, Try.zeroValue50, fun _ => .cons rfl (.nil)⟩⟩
instance : IsVar Try.prog 51 false 1 := ⟨Try.isAgg51, Try.sizeOf51⟩
instance : IsNew Try.prog 51 [vlit (.nilFunc)] := ⟨⟨_, Try.zeroValue51, fun _ => .cons rfl (.nil)⟩⟩
instance : IsVar Try.prog 52 false 1 := ⟨Try.isAgg52, Try.sizeOf52⟩
instance : IsNew Try.prog 52 [vlit (.nilFunc)] := ⟨⟨_, Try.zeroValue52, fun _ => .cons rfl (.nil)⟩⟩
instance : IsVar Try.prog 53 false 1 := ⟨Try.isAgg53, Try.sizeOf53⟩
instance : IsNew Try.prog 53 [vlit (.nilFunc)] := ⟨⟨_, Try.zeroValue53, fun _ => .cons rfl (.nil)⟩⟩
instance : IsVar Try.prog 54 false 1 := ⟨Try.isAgg54, Try.sizeOf54⟩
instance : IsNew Try.prog 54 [vlit (.nilFunc)] := ⟨⟨_, Try.zeroValue54, fun _ => .cons rfl (.nil)⟩⟩
instance : IsVar Try.prog 55 false 1 := ⟨Try.isAgg55, Try.sizeOf55⟩
instance : IsNew Try.prog 55 [vlit (.nilFunc)] := ⟨⟨_, Try.zeroValue55, fun _ => .cons rfl (.nil)⟩⟩
instance : IsVar Try.prog 56 false 1 := ⟨Try.isAgg56, Try.sizeOf56⟩
instance : IsNew Try.prog 56 [vlit (.slice none 0 0)] := ⟨⟨_, Try.zeroValue56, fun _ => .cons rfl (.nil)⟩⟩
instance : IsSl Try.prog 56 102 2 := ⟨Try.underlying56, Try.sizeOf102⟩
instance : IsSlM Try.prog 56 102 2 32 (.agg #[.int .i64 0, .slice none 0 0]) := ⟨⟨Try.t102, Try.underlying56, by kernel_rfl, rfl, rfl, rfl, rfl, by decide⟩⟩
instance : IsVar Try.prog 57 false 1 := ⟨Try.isAgg57, Try.sizeOf57⟩
instance : IsNew Try.prog 57 [vlit (.nilFunc)] := ⟨⟨_, Try.zeroValue57, fun _ => .cons rfl (.nil)⟩⟩
instance : IsVar Try.prog 59 false 1 := ⟨Try.isAgg59, Try.sizeOf59⟩
instance : IsNew Try.prog 59 [vlit (.nilFunc)] := ⟨⟨_, Try.zeroValue59, fun _ => .cons rfl (.nil)⟩⟩
instance : IsVar Try.prog 60 false 1 := ⟨Try.isAgg60, Try.sizeOf60⟩
instance : IsNew Try.prog 60 [vlit (.nilFunc)] := ⟨⟨_, Try.zeroValue60, fun _ => .cons rfl (.nil)⟩⟩
instance : IsVar Try.prog 61 false 1 := ⟨Try.isAgg61, Try.sizeOf61⟩
instance : IsNew Try.prog 61 [vlit (.nilFunc)] := ⟨⟨_, Try.zeroValue61, fun _ => .cons rfl (.nil)⟩⟩
instance : IsVar Try.prog 62 false 1 := ⟨Try.isAgg62, Try.sizeOf62⟩
instance : IsNew Try.prog 62 [vlit (.nilFunc)] := ⟨⟨_, Try.zeroValue62, fun _ => .cons rfl (.nil)⟩⟩
instance : IsVar Try.prog 63 false 1 := ⟨Try.isAgg63, Try.sizeOf63⟩
instance : IsNew Try.prog 63 [vlit (.nilFunc)] := ⟨⟨_, Try.zeroValue63, fun _ => .cons rfl (.nil)⟩⟩
instance : IsVar Try.prog 64 false 1 := ⟨Try.isAgg64, Try.sizeOf64⟩
instance : IsNew Try.prog 64 [vlit (.nilFunc)] := ⟨⟨_, Try.zeroValue64, fun _ => .cons rfl (.nil)⟩⟩
instance : IsVar Try.prog 65 false 1 := ⟨Try.isAgg65, Try.sizeOf65⟩
instance : IsNew Try.prog 65 [vlit (.nilFunc)] := ⟨⟨_, Try.zeroValue65, fun _ => .cons rfl (.nil)⟩⟩
instance : IsVar Try.prog 66 false 1 := ⟨Try.isAgg66, Try.sizeOf66⟩
instance : IsNew Try.prog 66 [vlit (.nilFunc)] := ⟨⟨_, Try.zeroValue66, fun _ => .cons rfl (.nil)⟩⟩
instance : IsVar Try.prog 67 false 1 := ⟨Try.isAgg67, Try.sizeOf67⟩
instance : IsNew Try.prog 67 [vlit (.nilFunc)] := ⟨⟨_, Try.zeroValue67, fun _ => .cons rfl (.nil)⟩⟩
instance : IsVar Try.prog 69 false 1 := ⟨Try.isAgg69, Try.sizeOf69⟩
instance : IsNew Try.prog 69 [vlit (.nilFunc)] := ⟨⟨_, Try.zeroValue69, fun _ => .cons rfl (.nil)⟩⟩
instance : IsVar Try.prog 70 false 1 := ⟨Try.isAgg70, Try.sizeOf70⟩
instance : IsNew Try.prog 70 [vlit (.nilFunc)] := ⟨⟨_, Try.zeroValue70, fun _ => .cons rfl (.nil)⟩⟩
instance : IsVar Try.prog 71 false 1 := ⟨Try.isAgg71, Try.sizeOf71⟩
instance : IsNew Try.prog 71 [vlit (.nilFunc)] := ⟨⟨_, Try.zeroValue71, fun _ => .cons rfl (.nil)⟩⟩
instance : IsVar Try.prog 73 false 1 := ⟨Try.isAgg73, Try.sizeOf73⟩
instance : IsNew Try.prog 73 [vlit (.nilFunc)] := ⟨⟨_, Try.zeroValue73, fun _ => .cons rfl (.nil)⟩⟩
instance : IsVar Try.prog 74 false 1 := ⟨Try.isAgg74, Try.sizeOf74⟩
instance : IsNew Try.prog 74 [vlit (.nilFunc)] := ⟨⟨_, Try.zeroValue74, fun _ => .cons rfl (.nil)⟩⟩
instance : IsVar Try.prog 75 false 1 := ⟨Try.isAgg75, Try.sizeOf75⟩
instance : IsNew Try.prog 75 [vlit (.nilFunc)] := ⟨⟨_, Try.zeroValue75, fun _ => .cons rfl (.nil)⟩⟩
instance : IsVar Try.prog 76 false 1 := ⟨Try.isAgg76, Try.sizeOf76⟩
instance : IsNew Try.prog 76 [vlit (.nilFunc)] := ⟨⟨_, Try.zeroValue76, fun _ => .cons rfl (.nil)⟩⟩
instance : IsVar Try.prog 77 false 1 := ⟨Try.isAgg77, Try.sizeOf77⟩
instance : IsNew Try.prog 77 [vlit (.nilFunc)] := ⟨⟨_, Try.zeroValue77, fun _ => .cons rfl (.nil)⟩⟩
instance : IsVar Try.prog 78 false 1 := ⟨Try.isAgg78, Try.sizeOf78⟩
instance : IsNew Try.prog 78 [vlit (.nilFunc)] := ⟨⟨_, Try.zeroValue78, fun _ => .cons rfl (.nil)⟩⟩
instance : IsVar Try.prog 79 false 1 := ⟨Try.isAgg79, Try.sizeOf79⟩
instance : IsNew Try.prog 79 [vlit (.nilFunc)] := ⟨⟨_, Try.zeroValue79, fun _ => .cons rfl (.nil)⟩⟩
instance : IsVar Try.prog 80 false 1 := ⟨Try.isAgg80, Try.sizeOf80⟩
instance : IsNew Try.prog 80 [vlit (.nilFunc)] := ⟨⟨_, Try.zeroValue80, fun _ => .cons rfl (.nil)⟩⟩
instance : IsVar Try.prog 81 false 1 := ⟨Try.isAgg81, Try.sizeOf81⟩
instance : IsNew Try.prog 81 [vlit (.nilFunc)] := ⟨⟨_, Try.zeroValue81, fun _ => .cons rfl (.nil)⟩⟩
instance : IsVar Try.prog 82 false 1 := ⟨Try.isAgg82, Try.sizeOf82⟩
instance : IsNew Try.prog 82 [vlit (.nilFunc)] := ⟨⟨_, Try.zeroValue82, fun _ => .cons rfl (.nil)⟩⟩
instance : IsVar Try.prog 83 false 1 := ⟨Try.isAgg83, Try.sizeOf83⟩
instance : IsNew Try.prog 83 [vlit (.nilFunc)] := ⟨⟨_, Try.zeroValue83, fun _ => .cons rfl (.nil)⟩⟩
instance : IsVar Try.prog 84 false 1 := ⟨Try.isAgg84, Try.sizeOf84⟩
instance : IsNew Try.prog 84 [vlit (.nilFunc)] := ⟨⟨_, Try.zeroValue84, fun _ => .cons rfl (.nil)⟩⟩
instance : IsVar Try.prog 85 true 3 := ⟨Try.isAgg85, Try.sizeOf85⟩
instance : IsNew Try.prog 85 [vlit (.slice none 0 0), vlit (.slice none 0 0), vlit (.bool false)] := ⟨⟨_, Try.zeroValue85, fun _ => .cons rfl (.cons rfl (.cons rfl (.nil)))⟩⟩
instance : IsStruct Try.prog 85 [(0, 1), (1, 1), (2, 1)] := ⟨⟨_, Try.underlying85, fun w => by simp [Try.sizeOf4, Try.sizeOf25, Try.sizeOf45]⟩⟩
instance : IsFld Try.prog 85 0 0 1 := ⟨⟨_, _, Try.underlying85, rfl, rfl, Try.sizeOf25, by decide⟩⟩
instance : IsFld Try.prog 85 1 1 1 := ⟨⟨_, _, Try.underlying85, rfl, rfl, Try.sizeOf45, by decide⟩⟩
instance : IsFld Try.prog 85 2 2 1 := ⟨⟨_, _, Try.underlying85, rfl, rfl, Try.sizeOf4, by decide⟩⟩
instance : IsVar Try.prog 86 true 3 := ⟨Try.isAgg86, Try.sizeOf86⟩
instance : IsNew Try.prog 86 [vlit (.slice none 0 0), vlit (.slice none 0 0), vlit (.bool false)] := ⟨⟨_, Try.zeroValue86, fun _ => .cons rfl (.cons rfl (.cons rfl (.nil)))⟩⟩
instance : IsStruct Try.prog 86 [(0, 1), (1, 1), (2, 1)] := ⟨⟨_, Try.underlying86, fun w => by simp [Try.sizeOf4, Try.sizeOf25, Try.sizeOf45]⟩⟩
instance : IsFld Try.prog 86 0 0 1 := ⟨⟨_, _, Try.underlying86, rfl, rfl, Try.sizeOf25, by decide⟩⟩
instance : IsFld Try.prog 86 1 1 1 := ⟨⟨_, _, Try.underlying86, rfl, rfl, Try.sizeOf45, by decide⟩⟩
instance : IsFld Try.prog 86 2 2 1 := ⟨⟨_, _, Try.underlying86, rfl, rfl, Try.sizeOf4, by decide⟩⟩
instance : IsVar Try.prog 87 false 1 := ⟨Try.isAgg87, Try.sizeOf87⟩
instance : IsNew Try.prog 87 [vlit (.nilFunc)] := ⟨⟨_, Try.zeroValue87, fun _ => .cons rfl (.nil)⟩⟩
instance : IsVar Try.prog 88 false 1 := ⟨Try.isAgg88, Try.sizeOf88⟩
instance : IsNew Try.prog 88 [vlit (.nilFunc)] := ⟨⟨_, Try.zeroValue88, fun _ => .cons rfl (.nil)⟩⟩
instance : IsVar Try.prog 89 false 1 := ⟨Try.isAgg89, Try.sizeOf89⟩
instance : IsNew Try.prog 89 [vlit (.nilFunc)] := ⟨⟨_, Try.zeroValue89, fun _ => .cons rfl (.nil)⟩⟩
instance : IsVar Try.prog 90 false 1 := ⟨Try.isAgg90, Try.sizeOf90⟩
instance : IsNew Try.prog 90 [vlit (.nilFunc)] := ⟨⟨_, Try.zeroValue90, fun _ => .cons rfl (.nil)⟩⟩
instance : IsVar Try.prog 91 false 1 := ⟨Try.isAgg91, Try.sizeOf91⟩
instance : IsNew Try.prog 91 [vlit (.pointer none)] := ⟨⟨_, Try.zeroValue91, fun _ => .cons rfl (.nil)⟩⟩
instance : IsVar Try.prog 93 false 1 := ⟨Try.isAgg93, Try.sizeOf93⟩
instance : IsNew Try.prog 93 [vlit (.nilFunc)] := ⟨⟨_, Try.zeroValue93, fun _ => .cons rfl (.nil)⟩⟩
instance : IsVar Try.prog 94 false 1 := ⟨Try.isAgg94, Try.sizeOf94⟩
instance : IsNew Try.prog 94 [vlit (.nilFunc)] := ⟨⟨_, Try.zeroValue94, fun _ => .cons rfl (.nil)⟩⟩
instance : IsVar Try.prog 95 false 1 := ⟨Try.isAgg95, Try.sizeOf95⟩
instance : IsNew Try.prog 95 [vlit (.map none)] := ⟨⟨_, Try.zeroValue95, fun _ => .cons rfl (.nil)⟩⟩
instance : IsSet Try.prog 95 := ⟨⟨_, _, Try.underlying95, Try.underlying9, Try.zeroValue4⟩⟩
instance : IsVar Try.prog 96 true 3 := ⟨Try.isAgg96, Try.sizeOf96⟩
instance : IsNew Try.prog 96 [vlit (.slice none 0 0), vlit (.slice none 0 0), vlit (.map none)] := ⟨⟨_, Try.zeroValue96, fun _ => .cons rfl (.cons rfl (.cons rfl (.nil)))⟩⟩
instance : IsStruct Try.prog 96 [(0, 1), (1, 1), (2, 1)] := ⟨⟨_, Try.underlying96, fun w => by simp [Try.sizeOf25, Try.sizeOf45, Try.sizeOf95]⟩⟩
instance : IsFld Try.prog 96 0 0 1 := ⟨⟨_, _, Try.underlying96, rfl, rfl, Try.sizeOf25, by decide⟩⟩
instance : IsFld Try.prog 96 1 1 1 := ⟨⟨_, _, Try.underlying96, rfl, rfl, Try.sizeOf45, by decide⟩⟩
instance : IsFld Try.prog 96 2 2 1 := ⟨⟨_, _, Try.underlying96, rfl, rfl, Try.sizeOf95, by decide⟩⟩
instance : IsVar Try.prog 97 true 3 := ⟨Try.isAgg97, Try.sizeOf97⟩
instance : IsNew Try.prog 97 [vlit (.slice none 0 0), vlit (.slice none 0 0), vlit (.map none)] := ⟨⟨_, Try.zeroValue97, fun _ => .cons rfl (.cons rfl (.cons rfl (.nil)))⟩⟩
instance : IsStruct Try.prog 97 [(0, 1), (1, 1), (2, 1)] := ⟨⟨_, Try.underlying97, fun w => by simp [Try.sizeOf25, Try.sizeOf45, Try.sizeOf95]⟩⟩
instance : IsFld Try.prog 97 0 0 1 := ⟨⟨_, _, Try.underlying97, rfl, rfl, Try.sizeOf25, by decide⟩⟩
instance : IsFld Try.prog 97 1 1 1 := ⟨⟨_, _, Try.underlying97, rfl, rfl, Try.sizeOf45, by decide⟩⟩
instance : IsFld Try.prog 97 2 2 1 := ⟨⟨_, _, Try.underlying97, rfl, rfl, Try.sizeOf95, by decide⟩⟩
instance : IsVar Try.prog 98 false 1 := ⟨Try.isAgg98, Try.sizeOf98⟩
instance : IsNew Try.prog 98 [vlit (.nilFunc)] := ⟨⟨_, Try.zeroValue98, fun _ => .cons rfl (.nil)⟩⟩
instance : IsVar Try.prog 99 true 2 := ⟨Try.isAgg99, Try.sizeOf99⟩
instance : IsNew Try.prog 99 [vlit (.int .i64 0), vlit (.slice none 0 0)] := ⟨⟨_, Try.zeroValue99, fun _ => .cons rfl (.cons rfl (.nil))⟩⟩
instance : IsStruct Try.prog 99 [(0, 1), (1, 1)] := ⟨⟨_, Try.underlying99, fun w => by simp [Try.sizeOf3, Try.sizeOf41]⟩⟩
instance : IsFld Try.prog 99 0 0 1 := ⟨⟨_, _, Try.underlying99, rfl, rfl, Try.sizeOf3, by decide⟩⟩
instance : IsFld Try.prog 99 1 1 1 := ⟨⟨_, _, Try.underlying99, rfl, rfl, Try.sizeOf41, by decide⟩⟩
instance : IsVar Try.prog 100 true 2 := ⟨Try.isAgg100, Try.sizeOf100⟩
instance : IsNew Try.prog 100 [vlit (.int .i64 0), vlit (.slice none 0 0)] := ⟨⟨_, Try.zeroValue100, fun _ => .cons rfl (.cons rfl (.nil))⟩⟩
instance : IsStruct Try.prog 100 [(0, 1), (1, 1)] := ⟨⟨_, Try.underlying100, fun w => by simp [Try.sizeOf3, Try.sizeOf41]⟩⟩
instance : IsFld Try.prog 100 0 0 1 := ⟨⟨_, _, Try.underlying100, rfl, rfl, Try.sizeOf3, by decide⟩⟩
instance : IsFld Try.prog 100 1 1 1 := ⟨⟨_, _, Try.underlying100, rfl, rfl, Try.sizeOf41, by decide⟩⟩
instance : IsVar Try.prog 101 false 1 := ⟨Try.isAgg101, Try.sizeOf101⟩
instance : IsNew Try.prog 101 [vlit (.nilFunc)] := ⟨⟨_, Try.zeroValue101, fun _ => .cons rfl (.nil)⟩⟩
instance : IsVar Try.prog 102 true 2 := ⟨Try.isAgg102, Try.sizeOf102⟩
instance : IsNew Try.prog 102 [vlit (.int .i64 0), vlit (.slice none 0 0)] := ⟨⟨_, Try.zeroValue102, fun _ => .cons rfl (.cons rfl (.nil))⟩⟩
instance : IsStruct Try.prog 102 [(0, 1), (1, 1)] := ⟨⟨_, Try.underlying102, fun w => by simp [Try.sizeOf3, Try.sizeOf41]⟩⟩
instance : IsFld Try.prog 102 0 0 1 := ⟨⟨_, _, Try.underlying102, rfl, rfl, Try.sizeOf3, by decide⟩⟩
instance : IsFld Try.prog 102 1 1 1 := ⟨⟨_, _, Try.underlying102, rfl, rfl, Try.sizeOf41, by decide⟩⟩
instance : IsVar Try.prog 103 false 1 := ⟨Try.isAgg103, Try.sizeOf103⟩
instance : IsNew Try.prog 103 [vlit (.nilFunc)] := ⟨⟨_, Try.zeroValue103, fun _ => .cons rfl (.nil)⟩⟩
instance : IsVar Try.prog 104 false 1 := ⟨Try.isAgg104, Try.sizeOf104⟩
instance : IsNew Try.prog 104 [vlit (.nilFunc)] := ⟨⟨_, Try.zeroValue104, fun _ => .cons rfl (.nil)⟩⟩
instance : IsVar Try.prog 105 false 1 := ⟨Try.isAgg105, Try.sizeOf105⟩
instance : IsNew Try.prog 105 [vlit (.nilFunc)] := ⟨⟨_, Try.zeroValue105, fun _ => .cons rfl (.nil)⟩⟩
instance : IsVar Try.prog 106 false 1 := ⟨Try.isAgg106, Try.sizeOf106⟩
instance : IsNew Try.prog 106 [vlit (.nilFunc)] := ⟨⟨_, Try.zeroValue106, fun _ => .cons rfl (.nil)⟩⟩
instance : IsVar Try.prog 107 false 1 := ⟨Try.isAgg107, Try.sizeOf107⟩
instance : IsNew Try.prog 107 [vlit (.nilFunc)] := ⟨⟨_, Try.zeroValue107, fun _ => .cons rfl (.nil)⟩⟩
instance : IsVar Try.prog 108 false 1 := ⟨Try.isAgg108, Try.sizeOf108⟩
instance : IsNew Try.prog 108 [vlit (.nilFunc)] := ⟨⟨_, Try.zeroValue108, fun _ => .cons rfl (.nil)⟩⟩
instance : IsVar Try.prog 109 false 1 := ⟨Try.isAgg109, Try.sizeOf109⟩
instance : IsNew Try.prog 109 [vlit (.nilFunc)] := ⟨⟨_, Try.zeroValue109, fun _ => .cons rfl (.nil)⟩⟩
instance : IsVar Try.prog 110 false 1 := ⟨Try.isAgg110, Try.sizeOf110⟩
instance : IsNew Try.prog 110 [vlit (.nilFunc)] := ⟨⟨_, Try.zeroValue110, fun _ => .cons rfl (.nil)⟩⟩
instance : IsVar Try.prog 111 false 1 := ⟨Try.isAgg111, Try.sizeOf111⟩
instance : IsNew Try.prog 111 [vlit (.nilFunc)] := ⟨⟨_, Try.zeroValue111, fun _ => .cons rfl (.nil)⟩⟩
instance : IsVar Try.prog 112 false 1 := ⟨Try.isAgg112, Try.sizeOf112⟩
instance : IsNew Try.prog 112 [vlit (.nilFunc)] := ⟨⟨_, Try.zeroValue112, fun _ => .cons rfl (.nil)⟩⟩
instance : IsVar Try.prog 113 false 1 := ⟨Try.isAgg113, Try.sizeOf113⟩
instance : IsNew Try.prog 113 [vlit (.nilFunc)] := ⟨⟨_, Try.zeroValue113, fun _ => .cons rfl (.nil)⟩⟩
instance : IsVar Try.prog 114 false 1 := ⟨Try.isAgg114, Try.sizeOf114⟩
instance : IsNew Try.prog 114 [vlit (.nilFunc)] := ⟨⟨_, Try.zeroValue114, fun _ => .cons rfl (.nil)⟩⟩
instance : IsVar Try.prog 115 false 1 := ⟨Try.isAgg115, Try.sizeOf115⟩
instance : IsNew Try.prog 115 [vlit (.nilFunc)] := ⟨⟨_, Try.zeroValue115, fun _ => .cons rfl (.nil)⟩⟩
instance : IsVar Try.prog 116 false 1 := ⟨Try.isAgg116, Try.sizeOf116⟩
instance : IsNew Try.prog 116 [vlit (.nilFunc)] := ⟨⟨_, Try.zeroValue116, fun _ => .cons rfl (.nil)⟩⟩
instance : IsVar Try.prog 117 false 1 := ⟨Try.isAgg117, Try.sizeOf117⟩
instance : IsNew Try.prog 117 [vlit (.slice none 0 0)] := ⟨⟨_, Try.zeroValue117, fun _ => .cons rfl (.nil)⟩⟩
instance : IsSl Try.prog 117 4 1 := ⟨Try.underlying117, Try.sizeOf4⟩
instance : IsSlM Try.prog 117 4 1 1 (.bool false) := ⟨⟨Try.t4, Try.underlying117, by kernel_rfl, rfl, rfl, rfl, rfl, by decide⟩⟩
instance : IsVar Try.prog 118 false 1 := ⟨Try.isAgg118, Try.sizeOf118⟩
instance : IsNew Try.prog 118 [vlit (.nilFunc)] := ⟨⟨_, Try.zeroValue118, fun _ => .cons rfl (.nil)⟩⟩
instance : IsVar Try.prog 119 false 1 := ⟨Try.isAgg119, Try.sizeOf119⟩
instance : IsNew Try.prog 119 [vlit (.nilFunc)] := ⟨⟨_, Try.zeroValue119, fun _ => .cons rfl (.nil)⟩⟩
instance : IsVar Try.prog 120 false 1 := ⟨Try.isAgg120, Try.sizeOf120⟩
instance : IsNew Try.prog 120 [vlit (.nilFunc)] := ⟨⟨_, Try.zeroValue120, fun _ => .cons rfl (.nil)⟩⟩
instance : IsVar Try.prog 121 false 1 := ⟨Try.isAgg121, Try.sizeOf121⟩
instance : IsNew Try.prog 121 [vlit (.nilFunc)] := ⟨⟨_, Try.zeroValue121, fun _ => .cons rfl (.nil)⟩⟩
instance : IsVar Try.prog 122 false 1 := ⟨Try.isAgg122, Try.sizeOf122⟩
instance : IsNew Try.prog 122 [vlit (.nilFunc)] := ⟨⟨_, Try.zeroValue122, fun _ => .cons rfl (.nil)⟩⟩
instance : IsVar Try.prog 124 false 1 := ⟨Try.isAgg124, Try.sizeOf124⟩
instance : IsNew Try.prog 124 [vlit (.nilFunc)] := ⟨⟨_, Try.zeroValue124, fun _ => .cons rfl (.nil)⟩⟩
instance : IsVar Try.prog 125 false 1 := ⟨Try.isAgg125, Try.sizeOf125⟩
instance : IsNew Try.prog 125 [vlit (.nilFunc)] := ⟨⟨_, Try.zeroValue125, fun _ => .cons rfl (.nil)⟩⟩
instance : IsVar Try.prog 126 false 1 := ⟨Try.isAgg126, Try.sizeOf126⟩
instance : IsNew Try.prog 126 [vlit (.nilFunc)] := ⟨⟨_, Try.zeroValue126, fun _ => .cons rfl (.nil)⟩⟩
instance : IsVar Try.prog 127 false 1 := ⟨Try.isAgg127, Try.sizeOf127⟩
instance : IsNew Try.prog 127 [vlit (.nilFunc)] := ⟨⟨_, Try.zeroValue127, fun _ => .cons rfl (.nil)⟩⟩
instance : IsVar Try.prog 128 false 1 := ⟨Try.isAgg128, Try.sizeOf128⟩
instance : IsNew Try.prog 128 [vlit (.nilFunc)] := ⟨⟨_, Try.zeroValue128, fun _ => .cons rfl (.nil)⟩⟩
instance : IsVar Try.prog 129 false 1 := ⟨Try.isAgg129, Try.sizeOf129⟩
instance : IsNew Try.prog 129 [vlit (.nilFunc)] := ⟨⟨_, Try.zeroValue129, fun _ => .cons rfl (.nil)⟩⟩
instance : IsVar Try.prog 130 false 1 := ⟨Try.isAgg130, Try.sizeOf130⟩
instance : IsNew Try.prog 130 [vlit (.nilFunc)] := ⟨⟨_, Try.zeroValue130, fun _ => .cons rfl (.nil)⟩⟩
instance : IsVar Try.prog 131 false 1 := ⟨Try.isAgg131, Try.sizeOf131⟩
instance : IsNew Try.prog 131 [vlit (.nilFunc)] := ⟨⟨_, Try.zeroValue131, fun _ => .cons rfl (.nil)⟩⟩
instance : IsVar Try.prog 132 false 1 := ⟨Try.isAgg132, Try.sizeOf132⟩
instance : IsNew Try.prog 132 [vlit (.nilFunc)] := ⟨⟨_, Try.zeroValue132, fun _ => .cons rfl (.nil)⟩⟩
instance : IsVar Try.prog 133 false 1 := ⟨Try.isAgg133, Try.sizeOf133⟩
instance : IsNew Try.prog 133 [vlit (.pointer none)] := ⟨⟨_, Try.zeroValue133, fun _ => .cons rfl (.nil)⟩⟩
instance : IsVar Try.prog 134 true 9 := ⟨Try.isAgg134, Try.sizeOf134⟩
instance : IsNew Try.prog 134 [vlit (.int .i64 0), vlit (.slice none 0 0), vlit (.int .i64 0), vlit (.slice none 0 0), vlit (.bool false), vlit (.bool false), vlit (.int .i64 0), vlit (.int .i64 0), vlit (.slice none 0 0)] := ⟨⟨_, Try.zeroValue134, fun _ => .cons rfl (.cons rfl (.cons rfl (.cons rfl (.cons rfl (.cons rfl (.cons rfl (.cons rfl (.cons rfl (.nil)))))))))⟩⟩
instance : IsStruct Try.prog 134 [(0, 2), (2, 2), (4, 1), (5, 1), (6, 1), (7, 1), (8, 1)] := ⟨⟨_, Try.underlying134, fun w => by simp [Try.sizeOf3, Try.sizeOf4, Try.sizeOf25, Try.sizeOf34]⟩⟩
instance : IsFld Try.prog 134 0 0 2 := ⟨⟨_, _, Try.underlying134, rfl, rfl, Try.sizeOf34, by decide⟩⟩
instance : IsFld Try.prog 134 1 2 2 := ⟨⟨_, _, Try.underlying134, rfl, rfl, Try.sizeOf34, by decide⟩⟩
instance : IsFld Try.prog 134 2 4 1 := ⟨⟨_, _, Try.underlying134, rfl, rfl, Try.sizeOf4, by decide⟩⟩
instance : IsFld Try.prog 134 3 5 1 := ⟨⟨_, _, Try.underlying134, rfl, rfl, Try.sizeOf4, by decide⟩⟩
instance : IsFld Try.prog 134 4 6 1 := ⟨⟨_, _, Try.underlying134, rfl, rfl, Try.sizeOf3, by decide⟩⟩
instance : IsFld Try.prog 134 5 7 1 := ⟨⟨_, _, Try.underlying134, rfl, rfl, Try.sizeOf3, by decide⟩⟩
instance : IsFld Try.prog 134 6 8 1 := ⟨⟨_, _, Try.underlying134, rfl, rfl, Try.sizeOf25, by decide⟩⟩
instance : IsVar Try.prog 135 true 9 := ⟨Try.isAgg135, Try.sizeOf135⟩
instance : IsNew Try.prog 135 [vlit (.int .i64 0), vlit (.slice none 0 0), vlit (.int .i64 0), vlit (.slice none 0 0), vlit (.bool false), vlit (.bool false), vlit (.int .i64 0), vlit (.int .i64 0), vlit (.slice none 0 0)] := ⟨⟨_, Try.zeroValue135, fun _ => .cons rfl (.cons rfl (.cons rfl (.cons rfl (.cons rfl (.cons rfl (.cons rfl (.cons rfl (.cons rfl (.nil)))))))))⟩⟩
instance : IsStruct Try.prog 135 [(0, 2), (2, 2), (4, 1), (5, 1), (6, 1), (7, 1), (8, 1)] := ⟨⟨_, Try.underlying135, fun w => by simp [Try.sizeOf3, Try.sizeOf4, Try.sizeOf25, Try.sizeOf34]⟩⟩
instance : IsFld Try.prog 135 0 0 2 := ⟨⟨_, _, Try.underlying135, rfl, rfl, Try.sizeOf34, by decide⟩⟩
instance : IsFld Try.prog 135 1 2 2 := ⟨⟨_, _, Try.underlying135, rfl, rfl, Try.sizeOf34, by decide⟩⟩
instance : IsFld Try.prog 135 2 4 1 := ⟨⟨_, _, Try.underlying135, rfl, rfl, Try.sizeOf4, by decide⟩⟩
instance : IsFld Try.prog 135 3 5 1 := ⟨⟨_, _, Try.underlying135, rfl, rfl, Try.sizeOf4, by decide⟩⟩
instance : IsFld Try.prog 135 4 6 1 := ⟨⟨_, _, Try.underlying135, rfl, rfl, Try.sizeOf3, by decide⟩⟩
instance : IsFld Try.prog 135 5 7 1 := ⟨⟨_, _, Try.underlying135, rfl, rfl, Try.sizeOf3, by decide⟩⟩
instance : IsFld Try.prog 135 6 8 1 := ⟨⟨_, _, Try.underlying135, rfl, rfl, Try.sizeOf25, by decide⟩⟩
instance : IsVar Try.prog 136 false 1 := ⟨Try.isAgg136, Try.sizeOf136⟩
instance : IsNew Try.prog 136 [vlit (.nilFunc)] := ⟨⟨_, Try.zeroValue136, fun _ => .cons rfl (.nil)⟩⟩
instance : IsVar Try.prog 137 false 1 := ⟨Try.isAgg137, Try.sizeOf137⟩
instance : IsNew Try.prog 137 [vlit (.nilFunc)] := ⟨⟨_, Try.zeroValue137, fun _ => .cons rfl (.nil)⟩⟩
instance : IsVar Try.prog 138 false 1 := ⟨Try.isAgg138, Try.sizeOf138⟩
instance : IsNew Try.prog 138 [vlit (.nilFunc)] := ⟨⟨_, Try.zeroValue138, fun _ => .cons rfl (.nil)⟩⟩
instance : IsVar Try.prog 139 false 1 := ⟨Try.isAgg139, Try.sizeOf139⟩
instance : IsNew Try.prog 139 [vlit (.nilFunc)] := ⟨⟨_, Try.zeroValue139, fun _ => .cons rfl (.nil)⟩⟩
instance : IsVar Try.prog 140 false 1 := ⟨Try.isAgg140, Try.sizeOf140⟩
instance : IsNew Try.prog 140 [vlit (.nilFunc)] := ⟨⟨_, Try.zeroValue140, fun _ => .cons rfl (.nil)⟩⟩
instance : IsVar Try.prog 141 false 1 := ⟨Try.isAgg141, Try.sizeOf141⟩
instance : IsNew Try.prog 141 [vlit (.nilFunc)] := ⟨⟨_, Try.zeroValue141, fun _ => .cons rfl (.nil)⟩⟩
instance : IsVar Try.prog 142 false 1 := ⟨Try.isAgg142, Try.sizeOf142⟩
instance : IsNew Try.prog 142 [vlit (.nilFunc)] := ⟨⟨_, Try.zeroValue142, fun _ => .cons rfl (.nil)⟩⟩
instance : IsVar Try.prog 143 false 1 := ⟨Try.isAgg143, Try.sizeOf143⟩
instance : IsNew Try.prog 143 [vlit (.nilFunc)] := ⟨⟨_, Try.zeroValue143, fun _ => .cons rfl (.nil)⟩⟩
instance : IsVar Try.prog 144 false 1 := ⟨Try.isAgg144, Try.sizeOf144⟩
instance : IsNew Try.prog 144 [vlit (.nilFunc)] := ⟨⟨_, Try.zeroValue144, fun _ => .cons rfl (.nil)⟩⟩
instance : IsVar Try.prog 145 false 1 := ⟨Try.isAgg145, Try.sizeOf145⟩
instance : IsNew Try.prog 145 [vlit (.nilFunc)] := ⟨⟨_, Try.zeroValue145, fun _ => .cons rfl (.nil)⟩⟩
instance : IsVar Try.prog 146 false 1 := ⟨Try.isAgg146, Try.sizeOf146⟩
instance : IsNew Try.prog 146 [vlit (.nilFunc)] := ⟨⟨_, Try.zeroValue146, fun _ => .cons rfl (.nil)⟩⟩
instance : IsVar Try.prog 147 false 1 := ⟨Try.isAgg147, Try.sizeOf147⟩
instance : IsNew Try.prog 147 [vlit (.nilFunc)] := ⟨⟨_, Try.zeroValue147, fun _ => .cons rfl (.nil)⟩⟩
instance : IsVar Try.prog 148 false 1 := ⟨Try.isAgg148, Try.sizeOf148⟩
instance : IsNew Try.prog 148 [vlit (.nilFunc)] := ⟨⟨_, Try.zeroValue148, fun _ => .cons rfl (.nil)⟩⟩
instance : IsVar Try.prog 149 false 1 := ⟨Try.isAgg149, Try.sizeOf149⟩
instance : IsNew Try.prog 149 [vlit (.nilFunc)] := ⟨⟨_, Try.zeroValue149, fun _ => .cons rfl (.nil)⟩⟩
instance : IsVar Try.prog 150 false 1 := ⟨Try.isAgg150, Try.sizeOf150⟩
instance : IsNew Try.prog 150 [vlit (.nilFunc)] := ⟨⟨_, Try.zeroValue150, fun _ => .cons rfl (.nil)⟩⟩
instance : IsVar Try.prog 151 false 1 := ⟨Try.isAgg151, Try.sizeOf151⟩
instance : IsNew Try.prog 151 [vlit (.pointer none)] := ⟨⟨_, Try.zeroValue151, fun _ => .cons rfl (.nil)⟩⟩
instance : IsVar Try.prog 152 true 7 := ⟨Try.isAgg152, Try.sizeOf152⟩
instance : IsNew Try.prog 152 [vlit (.int .i64 0), vlit (.slice none 0 0), vlit (.int .i64 0), vlit (.slice none 0 0), vlit (.bool false), vlit (.int .i64 0), vlit (.nilFunc)] := ⟨⟨_, Try.zeroValue152, fun _ => .cons rfl (.cons rfl (.cons rfl (.cons rfl (.cons rfl (.cons rfl (.cons rfl (.nil)))))))⟩⟩
instance : IsStruct Try.prog 152 [(0, 2), (2, 2), (4, 1), (5, 1), (6, 1)] := ⟨⟨_, Try.underlying152, fun w => by simp [Try.sizeOf3, Try.sizeOf4, Try.sizeOf34, Try.sizeOf113]⟩⟩
instance : IsFld Try.prog 152 0 0 2 := ⟨⟨_, _, Try.underlying152, rfl, rfl, Try.sizeOf34, by decide⟩⟩
instance : IsFld Try.prog 152 1 2 2 := ⟨⟨_, _, Try.underlying152, rfl, rfl, Try.sizeOf34, by decide⟩⟩
instance : IsFld Try.prog 152 2 4 1 := ⟨⟨_, _, Try.underlying152, rfl, rfl, Try.sizeOf4, by decide⟩⟩
instance : IsFld Try.prog 152 3 5 1 := ⟨⟨_, _, Try.underlying152, rfl, rfl, Try.sizeOf3, by decide⟩⟩
instance : IsFld Try.prog 152 4 6 1 := ⟨⟨_, _, Try.underlying152, rfl, rfl, Try.sizeOf113, by decide⟩⟩
instance : IsVar Try.prog 153 true 7 := ⟨Try.isAgg153, Try.sizeOf153⟩
instance : IsNew Try.prog 153 [vlit (.int .i64 0), vlit (.slice none 0 0), vlit (.int .i64 0), vlit (.slice none 0 0), vlit (.bool false), vlit (.int .i64 0), vlit (.nilFunc)] := ⟨⟨_, Try.zeroValue153, fun _ => .cons rfl (.cons rfl (.cons rfl (.cons rfl (.cons rfl (.cons rfl (.cons rfl (.nil)))))))⟩⟩
instance : IsStruct Try.prog 153 [(0, 2), (2, 2), (4, 1), (5, 1), (6, 1)] := ⟨⟨_, Try.underlying153, fun w => by simp [Try.sizeOf3, Try.sizeOf4, Try.sizeOf34, Try.sizeOf113]⟩⟩
instance : IsFld Try.prog 153 0 0 2 := ⟨⟨_, _, Try.underlying153, rfl, rfl, Try.sizeOf34, by decide⟩⟩
instance : IsFld Try.prog 153 1 2 2 := ⟨⟨_, _, Try.underlying153, rfl, rfl, Try.sizeOf34, by decide⟩⟩
instance : IsFld Try.prog 153 2 4 1 := ⟨⟨_, _, Try.underlying153, rfl, rfl, Try.sizeOf4, by decide⟩⟩
instance : IsFld Try.prog 153 3 5 1 := ⟨⟨_, _, Try.underlying153, rfl, rfl, Try.sizeOf3, by decide⟩⟩
instance : IsFld Try.prog 153 4 6 1 := ⟨⟨_, _, Try.underlying153, rfl, rfl, Try.sizeOf113, by decide⟩⟩
instance : IsVar Try.prog 154 false 1 := ⟨Try.isAgg154, Try.sizeOf154⟩
instance : IsNew Try.prog 154 [vlit (.nilFunc)] := ⟨⟨_, Try.zeroValue154, fun _ => .cons rfl (.nil)⟩⟩
instance : IsVar Try.prog 156 false 1 := ⟨Try.isAgg156, Try.sizeOf156⟩
instance : IsNew Try.prog 156 [vlit (.nilFunc)] := ⟨⟨_, Try.zeroValue156, fun _ => .cons rfl (.nil)⟩⟩
instance : IsVar Try.prog 157 false 1 := ⟨Try.isAgg157, Try.sizeOf157⟩
instance : IsNew Try.prog 157 [vlit (.slice none 0 0)] := ⟨⟨_, Try.zeroValue157, fun _ => .cons rfl (.nil)⟩⟩
instance : IsSl Try.prog 157 5 1 := ⟨Try.underlying157, Try.sizeOf5⟩
instance : IsSlM Try.prog 157 5 1 1 (.int .u8 0) := ⟨⟨Try.t5, Try.underlying157, by kernel_rfl, rfl, rfl, rfl, rfl, by decide⟩⟩
instance : IsVar Try.prog 158 false 1 := ⟨Try.isAgg158, Try.sizeOf158⟩
instance : IsNew Try.prog 158 [vlit (.int .u64 0)] := ⟨⟨_, Try.zeroValue158, fun _ => .cons rfl (.nil)⟩⟩
instance : IsU64 Try.prog 158 := ⟨Try.underlying158⟩
instance : IsVar Try.prog 159 false 1 := ⟨Try.isAgg159, Try.sizeOf159⟩
instance : IsNew Try.prog 159 [vlit (.nilFunc)] := ⟨⟨_, Try.zeroValue159, fun _ => .cons rfl (.nil)⟩⟩
instance : IsVar Try.prog 160 false 1 := ⟨Try.isAgg160, Try.sizeOf160⟩
instance : IsNew Try.prog 160 [vlit (.nilFunc)] := ⟨⟨_, Try.zeroValue160, fun _ => .cons rfl (.nil)⟩⟩
instance : IsVar Try.prog 161 false 1 := ⟨Try.isAgg161, Try.sizeOf161⟩
instance : IsNew Try.prog 161 [vlit (.nilFunc)] := ⟨⟨_, Try.zeroValue161, fun _ => .cons rfl (.nil)⟩⟩
instance : IsVar Try.prog 162 false 1 := ⟨Try.isAgg162, Try.sizeOf162⟩
instance : IsNew Try.prog 162 [vlit (.nilFunc)] := ⟨⟨_, Try.zeroValue162, fun _ => .cons rfl (.nil)⟩⟩
instance : IsVar Try.prog 163 false 1 := ⟨Try.isAgg163, Try.sizeOf163⟩
instance : IsNew Try.prog 163 [vlit (.nilFunc)] := ⟨⟨_, Try.zeroValue163, fun _ => .cons rfl (.nil)⟩⟩
instance : IsVar Try.prog 164 true 4 := ⟨Try.isAgg164, Try.sizeOf164⟩
instance : IsNew Try.prog 164 [vlit (.pointer none), vlit (.pointer none), vlit (.pointer none), vlit (.string .empty)] := ⟨⟨_, Try.zeroValue164, fun _ => .cons rfl (.cons rfl (.cons rfl (.cons rfl (.nil))))⟩⟩
instance : IsStruct Try.prog 164 [(0, 1), (1, 1), (2, 1), (3, 1)] := ⟨⟨_, Try.underlying164, fun w => by simp [Try.sizeOf9, Try.sizeOf17]⟩⟩
instance : IsFld Try.prog 164 0 0 1 := ⟨⟨_, _, Try.underlying164, rfl, rfl, Try.sizeOf17, by decide⟩⟩
instance : IsFld Try.prog 164 1 1 1 := ⟨⟨_, _, Try.underlying164, rfl, rfl, Try.sizeOf17, by decide⟩⟩
instance : IsFld Try.prog 164 2 2 1 := ⟨⟨_, _, Try.underlying164, rfl, rfl, Try.sizeOf17, by decide⟩⟩
instance : IsFld Try.prog 164 3 3 1 := ⟨⟨_, _, Try.underlying164, rfl, rfl, Try.sizeOf9, by decide⟩⟩
instance : IsVar Try.prog 165 true 4 := ⟨Try.isAgg165, Try.sizeOf165⟩
instance : IsNew Try.prog 165 [vlit (.pointer none), vlit (.pointer none), vlit (.pointer none), vlit (.string .empty)] := ⟨⟨_, Try.zeroValue165, fun _ => .cons rfl (.cons rfl (.cons rfl (.cons rfl (.nil))))⟩⟩
instance : IsStruct Try.prog 165 [(0, 1), (1, 1), (2, 1), (3, 1)] := ⟨⟨_, Try.underlying165, fun w => by simp [Try.sizeOf9, Try.sizeOf17]⟩⟩
instance : IsFld Try.prog 165 0 0 1 := ⟨⟨_, _, Try.underlying165, rfl, rfl, Try.sizeOf17, by decide⟩⟩
instance : IsFld Try.prog 165 1 1 1 := ⟨⟨_, _, Try.underlying165, rfl, rfl, Try.sizeOf17, by decide⟩⟩
instance : IsFld Try.prog 165 2 2 1 := ⟨⟨_, _, Try.underlying165, rfl, rfl, Try.sizeOf17, by decide⟩⟩
instance : IsFld Try.prog 165 3 3 1 := ⟨⟨_, _, Try.underlying165, rfl, rfl, Try.sizeOf9, by decide⟩⟩
instance : IsVar Try.prog 166 true 0 := ⟨Try.isAgg166, Try.sizeOf166⟩
instance : IsNew Try.prog 166 [] := ⟨⟨_, Try.zeroValue166, fun _ => .nil⟩⟩
instance : IsVar Try.prog 167 true 0 := ⟨Try.isAgg167, Try.sizeOf167⟩
instance : IsNew Try.prog 167 [] := ⟨⟨_, Try.zeroValue167, fun _ => .nil⟩⟩
instance : IsVar Try.prog 168 true 0 := ⟨Try.isAgg168, Try.sizeOf168⟩
instance : IsNew Try.prog 168 [] := ⟨⟨_, Try.zeroValue168, fun _ => .nil⟩⟩
instance : IsVar Try.prog 169 false 1 := ⟨Try.isAgg169, Try.sizeOf169⟩
instance : IsNew Try.prog 169 [vlit (.nilFunc)] := ⟨⟨_, Try.zeroValue169, fun _ => .cons rfl (.nil)⟩⟩
instance : IsVar Try.prog 170 false 1 := ⟨Try.isAgg170, Try.sizeOf170⟩
instance : IsNew Try.prog 170 [vlit (.int .u32 0)] := ⟨⟨_, Try.zeroValue170, fun _ => .cons rfl (.nil)⟩⟩
instance : IsVar Try.prog 171 false 1 := ⟨Try.isAgg171, Try.sizeOf171⟩
instance : IsNew Try.prog 171 [vlit (.int .u8 0)] := ⟨⟨_, Try.zeroValue171, fun _ => .cons rfl (.nil)⟩⟩
instance : IsU8 Try.prog 171 := ⟨Try.underlying171⟩
instance : IsVar Try.prog 172 false 1 := ⟨Try.isAgg172, Try.sizeOf172⟩
instance : IsNew Try.prog 172 [vlit (.int .u8 0)] := ⟨⟨_, Try.zeroValue172, fun _ => .cons rfl (.nil)⟩⟩
instance : IsU8 Try.prog 172 := ⟨Try.underlying172⟩
instance : IsVar Try.prog 173 false 1 := ⟨Try.isAgg173, Try.sizeOf173⟩
instance : IsNew Try.prog 173 [vlit (.nilFunc)] := ⟨⟨_, Try.zeroValue173, fun _ => .cons rfl (.nil)⟩⟩
instance : IsVar Try.prog 174 false 1 := ⟨Try.isAgg174, Try.sizeOf174⟩
instance : IsNew Try.prog 174 [vlit (.pointer none)] := ⟨⟨_, Try.zeroValue174, fun _ => .cons rfl (.nil)⟩⟩
instance : IsVar Try.prog 175 false 1 := ⟨Try.isAgg175, Try.sizeOf175⟩
instance : IsNew Try.prog 175 [vlit (.int .i32 0)] := ⟨⟨_, Try.zeroValue175, fun _ => .cons rfl (.nil)⟩⟩
instance : IsVar Try.prog 176 false 1 := ⟨Try.isAgg176, Try.sizeOf176⟩
instance : IsNew Try.prog 176 [vlit (.int .i32 0)] := ⟨⟨_, Try.zeroValue176, fun _ => .cons rfl (.nil)⟩⟩
instance : IsVar Try.prog 177 true 11 := ⟨Try.isAgg177, Try.sizeOf177⟩
instance : IsNew Try.prog 177 [vlit (.int .u64 0), vlit (.int .u64 0), vlit (.int .u32 0), vlit (.int .u8 0), vlit (.int .u8 0), vlit (.int .u8 0), vlit (.int .u8 0), vlit (.nilFunc), vlit (.pointer none), vlit (.int .i32 0), vlit (.int .i32 0)] := ⟨⟨_, Try.zeroValue177, fun _ => .cons rfl (.cons rfl (.cons rfl (.cons rfl (.cons rfl (.cons rfl (.cons rfl (.cons rfl (.cons rfl (.cons rfl (.cons rfl (.nil)))))))))))⟩⟩
instance : IsStruct Try.prog 177 [(0, 1), (1, 1), (2, 1), (3, 1), (4, 1), (5, 1), (6, 1), (7, 1), (8, 1), (9, 1), (10, 1)] := ⟨⟨_, Try.underlying177, fun w => by simp [Try.sizeOf5, Try.sizeOf12, Try.sizeOf170, Try.sizeOf171, Try.sizeOf172, Try.sizeOf173, Try.sizeOf174, Try.sizeOf175, Try.sizeOf176]⟩⟩
instance : IsFld Try.prog 177 0 0 1 := ⟨⟨_, _, Try.underlying177, rfl, rfl, Try.sizeOf12, by decide⟩⟩
instance : IsFld Try.prog 177 1 1 1 := ⟨⟨_, _, Try.underlying177, rfl, rfl, Try.sizeOf12, by decide⟩⟩
instance : IsFld Try.prog 177 2 2 1 := ⟨⟨_, _, Try.underlying177, rfl, rfl, Try.sizeOf170, by decide⟩⟩
instance : IsFld Try.prog 177 3 3 1 := ⟨⟨_, _, Try.underlying177, rfl, rfl, Try.sizeOf171, by decide⟩⟩
instance : IsFld Try.prog 177 4 4 1 := ⟨⟨_, _, Try.underlying177, rfl, rfl, Try.sizeOf5, by decide⟩⟩
instance : IsFld Try.prog 177 5 5 1 := ⟨⟨_, _, Try.underlying177, rfl, rfl, Try.sizeOf5, by decide⟩⟩
instance : IsFld Try.prog 177 6 6 1 := ⟨⟨_, _, Try.underlying177, rfl, rfl, Try.sizeOf172, by decide⟩⟩
instance : IsFld Try.prog 177 7 7 1 := ⟨⟨_, _, Try.underlying177, rfl, rfl, Try.sizeOf173, by decide⟩⟩
instance : IsFld Try.prog 177 8 8 1 := ⟨⟨_, _, Try.underlying177, rfl, rfl, Try.sizeOf174, by decide⟩⟩
instance : IsFld Try.prog 177 9 9 1 := ⟨⟨_, _, Try.underlying177, rfl, rfl, Try.sizeOf175, by decide⟩⟩
instance : IsFld Try.prog 177 10 10 1 := ⟨⟨_, _, Try.underlying177, rfl, rfl, Try.sizeOf176, by decide⟩⟩
instance : IsVar Try.prog 178 true 11 := ⟨Try.isAgg178, Try.sizeOf178⟩
instance : IsNew Try.prog 178 [vlit (.int .u64 0), vlit (.int .u64 0), vlit (.int .u32 0), vlit (.int .u8 0), vlit (.int .u8 0), vlit (.int .u8 0), vlit (.int .u8 0), vlit (.nilFunc), vlit (.pointer none), vlit (.int .i32 0), vlit (.int .i32 0)] := ⟨⟨_, Try.zeroValue178, fun _ => .cons rfl (.cons rfl (.cons rfl (.cons rfl (.cons rfl (.cons rfl (.cons rfl (.cons rfl (.cons rfl (.cons rfl (.cons rfl (.nil)))))))))))⟩⟩
instance : IsStruct Try.prog 178 [(0, 1), (1, 1), (2, 1), (3, 1), (4, 1), (5, 1), (6, 1), (7, 1), (8, 1), (9, 1), (10, 1)] := ⟨⟨_, Try.underlying178, fun w => by simp [Try.sizeOf5, Try.sizeOf12, Try.sizeOf170, Try.sizeOf171, Try.sizeOf172, Try.sizeOf173, Try.sizeOf174, Try.sizeOf175, Try.sizeOf176]⟩⟩
instance : IsFld Try.prog 178 0 0 1 := ⟨⟨_, _, Try.underlying178, rfl, rfl, Try.sizeOf12, by decide⟩⟩
instance : IsFld Try.prog 178 1 1 1 := ⟨⟨_, _, Try.underlying178, rfl, rfl, Try.sizeOf12, by decide⟩⟩
instance : IsFld Try.prog 178 2 2 1 := ⟨⟨_, _, Try.underlying178, rfl, rfl, Try.sizeOf170, by decide⟩⟩
instance : IsFld Try.prog 178 3 3 1 := ⟨⟨_, _, Try.underlying178, rfl, rfl, Try.sizeOf171, by decide⟩⟩
instance : IsFld Try.prog 178 4 4 1 := ⟨⟨_, _, Try.underlying178, rfl, rfl, Try.sizeOf5, by decide⟩⟩
instance : IsFld Try.prog 178 5 5 1 := ⟨⟨_, _, Try.underlying178, rfl, rfl, Try.sizeOf5, by decide⟩⟩
instance : IsFld Try.prog 178 6 6 1 := ⟨⟨_, _, Try.underlying178, rfl, rfl, Try.sizeOf172, by decide⟩⟩
instance : IsFld Try.prog 178 7 7 1 := ⟨⟨_, _, Try.underlying178, rfl, rfl, Try.sizeOf173, by decide⟩⟩
instance : IsFld Try.prog 178 8 8 1 := ⟨⟨_, _, Try.underlying178, rfl, rfl, Try.sizeOf174, by decide⟩⟩
instance : IsFld Try.prog 178 9 9 1 := ⟨⟨_, _, Try.underlying178, rfl, rfl, Try.sizeOf175, by decide⟩⟩
instance : IsFld Try.prog 178 10 10 1 := ⟨⟨_, _, Try.underlying178, rfl, rfl, Try.sizeOf176, by decide⟩⟩
end Go.Proofs.Ytkelbadedagcaaa
