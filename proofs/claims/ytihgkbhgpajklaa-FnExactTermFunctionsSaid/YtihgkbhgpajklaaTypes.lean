/- The facts on the types of this translation, as class instances. No conditions. -/
import Derived.Test.YtihgkbhgpajklaaProg
import Derived.KernelRfl
import Derived.Test.YtihgkbhgpajklaaCoreZ
namespace Go.Proofs.Ytihgkbhgpajklaa
open Go Go.Proofs

instance : IsVar Try.prog 2 false 1 := ⟨Try.isAgg2, Try.sizeOf2⟩
instance : IsNew Try.prog 2 [vlit (.int .i64 0)] := ⟨⟨_, Try.zeroValue2, fun _ => .cons rfl (.nil)⟩⟩
instance : IsI64 Try.prog 2 := ⟨Try.underlying2⟩
instance : IsVar Try.prog 3 false 1 := ⟨Try.isAgg3, Try.sizeOf3⟩
instance : IsNew Try.prog 3 [vlit (.int .i64 0)] := ⟨⟨_, Try.zeroValue3, fun _ => .cons rfl (.nil)⟩⟩
instance : IsI64 Try.prog 3 := ⟨Try.underlying3⟩
instance : IsVar Try.prog 4 false 1 := ⟨Try.isAgg4, Try.sizeOf4⟩
instance : IsNew Try.prog 4 [vlit (.bool false)] := ⟨⟨_, Try.zeroValue4, fun _ => .cons rfl (.nil)⟩⟩
instance : IsBool Try.prog 4 := ⟨Try.underlying4⟩
instance : IsVar Try.prog 5 false 1 := ⟨Try.isAgg5, Try.sizeOf5⟩
instance : IsNew Try.prog 5 [vlit (.int .u8 0)] := ⟨⟨_, Try.zeroValue5, fun _ => .cons rfl (.nil)⟩⟩
instance : IsU8 Try.prog 5 := ⟨Try.underlying5⟩
instance : IsVar Try.prog 6 false 1 := ⟨Try.isAgg6, Try.sizeOf6⟩
instance : IsNew Try.prog 6 [vlit (.int .u8 0)] := ⟨⟨_, Try.zeroValue6, fun _ => .cons rfl (.nil)⟩⟩
instance : IsU8 Try.prog 6 := ⟨Try.underlying6⟩
instance : IsVar Try.prog 7 true 4 := ⟨Try.isAgg7, Try.sizeOf7⟩
instance : IsNew Try.prog 7 [vlit (.int .i64 0), vlit (.int .i64 0), vlit (.bool false), vlit (.int .u8 0)] := ⟨⟨_, Try.zeroValue7, fun _ => .cons rfl (.cons rfl (.cons rfl (.cons rfl (.nil))))⟩⟩
instance : IsStruct Try.prog 7 [(0, 1), (1, 1), (2, 1), (3, 1)] := ⟨⟨_, Try.underlying7, fun w => by simp [Try.sizeOf2, Try.sizeOf3, Try.sizeOf4, Try.sizeOf6]⟩⟩
instance : IsFld Try.prog 7 0 0 1 := ⟨⟨_, _, Try.underlying7, rfl, rfl, Try.sizeOf2, by decide⟩⟩
instance : IsFld Try.prog 7 1 1 1 := ⟨⟨_, _, Try.underlying7, rfl, rfl, Try.sizeOf3, by decide⟩⟩
instance : IsFld Try.prog 7 2 2 1 := ⟨⟨_, _, Try.underlying7, rfl, rfl, Try.sizeOf4, by decide⟩⟩
instance : IsFld Try.prog 7 3 3 1 := ⟨⟨_, _, Try.underlying7, rfl, rfl, Try.sizeOf6, by decide⟩⟩
instance : IsVar Try.prog 8 true 4 := ⟨Try.isAgg8, Try.sizeOf8⟩
instance : IsNew Try.prog 8 [vlit (.int .i64 0), vlit (.int .i64 0), vlit (.bool false), vlit (.int .u8 0)] := ⟨⟨_, Try.zeroValue8, fun _ => .cons rfl (.cons rfl (.cons rfl (.cons rfl (.nil))))⟩⟩
instance : IsStruct Try.prog 8 [(0, 1), (1, 1), (2, 1), (3, 1)] := ⟨⟨_, Try.underlying8, fun w => by simp [Try.sizeOf2, Try.sizeOf3, Try.sizeOf4, Try.sizeOf6]⟩⟩
instance : IsFld Try.prog 8 0 0 1 := ⟨⟨_, _, Try.underlying8, rfl, rfl, Try.sizeOf2, by decide⟩⟩
instance : IsFld Try.prog 8 1 1 1 := ⟨⟨_, _, Try.underlying8, rfl, rfl, Try.sizeOf3, by decide⟩⟩
instance : IsFld Try.prog 8 2 2 1 := ⟨⟨_, _, Try.underlying8, rfl, rfl, Try.sizeOf4, by decide⟩⟩
instance : IsFld Try.prog 8 3 3 1 := ⟨⟨_, _, Try.underlying8, rfl, rfl, Try.sizeOf6, by decide⟩⟩
instance : IsVar Try.prog 9 false 1 := ⟨Try.isAgg9, Try.sizeOf9⟩
instance : IsNew Try.prog 9 [vlit (.string .empty)] := ⟨⟨_, Try.zeroValue9, fun _ => .cons rfl (.nil)⟩⟩
instance : IsStr Try.prog 9 := ⟨Try.underlying9⟩
instance : IsVar Try.prog 10 false 1 := ⟨Try.isAgg10, Try.sizeOf10⟩
instance : IsNew Try.prog 10 [vlit (.string .empty)] := ⟨⟨_, Try.zeroValue10, fun _ => .cons rfl (.nil)⟩⟩
instance : IsStr Try.prog 10 := ⟨Try.underlying10⟩
instance : IsVar Try.prog 11 false 1 := ⟨Try.isAgg11, Try.sizeOf11⟩
instance : IsNew Try.prog 11 [vlit (.string .empty)] := ⟨⟨_, Try.zeroValue11, fun _ => .cons rfl (.nil)⟩⟩
instance : IsStr Try.prog 11 := ⟨Try.underlying11⟩
instance : IsVar Try.prog 12 false 1 := ⟨Try.isAgg12, Try.sizeOf12⟩
instance : IsNew Try.prog 12 [vlit (.int .u64 0)] := ⟨⟨_, Try.zeroValue12, fun _ => .cons rfl (.nil)⟩⟩
instance : IsVar Try.prog 13 true 2 := ⟨Try.isAgg13, Try.sizeOf13⟩
instance : IsNew Try.prog 13 [vlit (.string .empty), vlit (.int .u64 0)] := ⟨⟨_, Try.zeroValue13, fun _ => .cons rfl (.cons rfl (.nil))⟩⟩
instance : IsStruct Try.prog 13 [(0, 1), (1, 1)] := ⟨⟨_, Try.underlying13, fun w => by simp [Try.sizeOf9, Try.sizeOf12]⟩⟩
instance : IsFld Try.prog 13 0 0 1 := ⟨⟨_, _, Try.underlying13, rfl, rfl, Try.sizeOf9, by decide⟩⟩
instance : IsFld Try.prog 13 1 1 1 := ⟨⟨_, _, Try.underlying13, rfl, rfl, Try.sizeOf12, by decide⟩⟩
instance : IsVar Try.prog 14 true 2 := ⟨Try.isAgg14, Try.sizeOf14⟩
instance : IsNew Try.prog 14 [vlit (.string .empty), vlit (.int .u64 0)] := ⟨⟨_, Try.zeroValue14, fun _ => .cons rfl (.cons rfl (.nil))⟩⟩
instance : IsStruct Try.prog 14 [(0, 1), (1, 1)] := ⟨⟨_, Try.underlying14, fun w => by simp [Try.sizeOf9, Try.sizeOf12]⟩⟩
instance : IsFld Try.prog 14 0 0 1 := ⟨⟨_, _, Try.underlying14, rfl, rfl, Try.sizeOf9, by decide⟩⟩
instance : IsFld Try.prog 14 1 1 1 := ⟨⟨_, _, Try.underlying14, rfl, rfl, Try.sizeOf12, by decide⟩⟩
instance : IsVar Try.prog 15 false 1 := ⟨Try.isAgg15, Try.sizeOf15⟩
instance : IsNew Try.prog 15 [vlit (.pointer none)] := ⟨⟨_, Try.zeroValue15, fun _ => .cons rfl (.nil)⟩⟩
instance : IsVar Try.prog 16 false 1 := ⟨Try.isAgg16, Try.sizeOf16⟩
instance : IsNew Try.prog 16 [vlit (.pointer none)] := ⟨⟨_, Try.zeroValue16, fun _ => .cons rfl (.nil)⟩⟩
instance : IsVar Try.prog 17 false 1 := ⟨Try.isAgg17, Try.sizeOf17⟩
instance : IsNew Try.prog 17 [vlit (.pointer none)] := ⟨⟨_, Try.zeroValue17, fun _ => .cons rfl (.nil)⟩⟩
instance : IsVar Try.prog 18 true 1 := ⟨Try.isAgg18, Try.sizeOf18⟩
instance : IsNew Try.prog 18 [vlit (.pointer none)] := ⟨⟨_, Try.zeroValue18, fun _ => .cons rfl (.nil)⟩⟩
instance : IsStruct Try.prog 18 [(0, 1)] := ⟨⟨_, Try.underlying18, fun w => by simp [Try.sizeOf17]⟩⟩
instance : IsFld Try.prog 18 0 0 1 := ⟨⟨_, _, Try.underlying18, rfl, rfl, Try.sizeOf17, by decide⟩⟩
instance : IsVar Try.prog 19 true 1 := ⟨Try.isAgg19, Try.sizeOf19⟩
instance : IsNew Try.prog 19 [vlit (.pointer none)] := ⟨⟨_, Try.zeroValue19, fun _ => .cons rfl (.nil)⟩⟩
instance : IsStruct Try.prog 19 [(0, 1)] := ⟨⟨_, Try.underlying19, fun w => by simp [Try.sizeOf17]⟩⟩
instance : IsFld Try.prog 19 0 0 1 := ⟨⟨_, _, Try.underlying19, rfl, rfl, Try.sizeOf17, by decide⟩⟩
instance : IsVar Try.prog 21 false 1 := ⟨Try.isAgg21, Try.sizeOf21⟩
instance : IsNew Try.prog 21 [vlit (.int .i32 0)] := ⟨⟨_, Try.zeroValue21, fun _ => .cons rfl (.nil)⟩⟩
instance : IsVar Try.prog 22 false 1 := ⟨Try.isAgg22, Try.sizeOf22⟩
instance : IsNew Try.prog 22 [vlit (.slice none 0 0)] := ⟨⟨_, Try.zeroValue22, fun _ => .cons rfl (.nil)⟩⟩
instance : IsSl Try.prog 22 33 1 := ⟨Try.underlying22, Try.sizeOf33⟩
instance : IsSlM Try.prog 22 33 1 24 (.slice none 0 0) := ⟨⟨Try.t33, Try.underlying22, by kernel_rfl, rfl, rfl, rfl, rfl, by decide⟩⟩
instance : IsVar Try.prog 23 true 2 := ⟨Try.isAgg23, Try.sizeOf23⟩
instance : IsNew Try.prog 23 [vlit (.int .i64 0), vlit (.slice none 0 0)] := ⟨⟨_, Try.zeroValue23, fun _ => .cons rfl (.cons rfl (.nil))⟩⟩
instance : IsStruct Try.prog 23 [(0, 1), (1, 1)] := ⟨⟨_, Try.underlying23, fun w => by simp [Try.sizeOf3, Try.sizeOf22]⟩⟩
instance : IsFld Try.prog 23 0 0 1 := ⟨⟨_, _, Try.underlying23, rfl, rfl, Try.sizeOf3, by decide⟩⟩
instance : IsFld Try.prog 23 1 1 1 := ⟨⟨_, _, Try.underlying23, rfl, rfl, Try.sizeOf22, by decide⟩⟩
instance : IsVar Try.prog 24 true 2 := ⟨Try.isAgg24, Try.sizeOf24⟩
instance : IsNew Try.prog 24 [vlit (.int .i64 0), vlit (.slice none 0 0)] := ⟨⟨_, Try.zeroValue24, fun _ => .cons rfl (.cons rfl (.nil))⟩⟩
instance : IsStruct Try.prog 24 [(0, 1), (1, 1)] := ⟨⟨_, Try.underlying24, fun w => by simp [Try.sizeOf3, Try.sizeOf22]⟩⟩
instance : IsFld Try.prog 24 0 0 1 := ⟨⟨_, _, Try.underlying24, rfl, rfl, Try.sizeOf3, by decide⟩⟩
instance : IsFld Try.prog 24 1 1 1 := ⟨⟨_, _, Try.underlying24, rfl, rfl, Try.sizeOf22, by decide⟩⟩
instance : IsVar Try.prog 26 true 2 := ⟨Try.isAgg26, Try.sizeOf26⟩
instance : IsNew Try.prog 26 [vlit (.int .i64 0), vlit (.slice none 0 0)] := ⟨⟨_, Try.zeroValue26, fun _ => .cons rfl (.cons rfl (.nil))⟩⟩
instance : IsStruct Try.prog 26 [(0, 1), (1, 1)] := ⟨⟨_, Try.underlying26, fun w => by simp [Try.sizeOf3, Try.sizeOf22]⟩⟩
instance : IsFld Try.prog 26 0 0 1 := ⟨⟨_, _, Try.underlying26, rfl, rfl, Try.sizeOf3, by decide⟩⟩
instance : IsFld Try.prog 26 1 1 1 := ⟨⟨_, _, Try.underlying26, rfl, rfl, Try.sizeOf22, by decide⟩⟩
instance : IsVar Try.prog 33 false 1 := ⟨Try.isAgg33, Try.sizeOf33⟩
instance : IsNew Try.prog 33 [vlit (.slice none 0 0)] := ⟨⟨_, Try.zeroValue33, fun _ => .cons rfl (.nil)⟩⟩
instance : IsSl Try.prog 33 3 1 := ⟨Try.underlying33, Try.sizeOf3⟩
instance : IsSlM Try.prog 33 3 1 8 (.int .i64 0) := ⟨⟨Try.t3, Try.underlying33, by kernel_rfl, rfl, rfl, rfl, rfl, by decide⟩⟩
instance : IsVar Try.prog 34 true 2 := ⟨Try.isAgg34, Try.sizeOf34⟩
instance : IsNew Try.prog 34 [vlit (.int .i64 0), vlit (.slice none 0 0)] := ⟨⟨_, Try.zeroValue34, fun _ => .cons rfl (.cons rfl (.nil))⟩⟩
instance : IsStruct Try.prog 34 [(0, 1), (1, 1)] := ⟨⟨_, Try.underlying34, fun w => by simp [Try.sizeOf3, Try.sizeOf33]⟩⟩
instance : IsFld Try.prog 34 0 0 1 := ⟨⟨_, _, Try.underlying34, rfl, rfl, Try.sizeOf3, by decide⟩⟩
instance : IsFld Try.prog 34 1 1 1 := ⟨⟨_, _, Try.underlying34, rfl, rfl, Try.sizeOf33, by decide⟩⟩
instance : IsVar Try.prog 35 true 2 := ⟨Try.isAgg35, Try.sizeOf35⟩
instance : IsNew Try.prog 35 [vlit (.int .i64 0), vlit (.slice none 0 0)] := ⟨⟨_, Try.zeroValue35, fun _ => .cons rfl (.cons rfl (.nil))⟩⟩
instance : IsStruct Try.prog 35 [(0, 1), (1, 1)] := ⟨⟨_, Try.underlying35, fun w => by simp [Try.sizeOf3, Try.sizeOf33]⟩⟩
instance : IsFld Try.prog 35 0 0 1 := ⟨⟨_, _, Try.underlying35, rfl, rfl, Try.sizeOf3, by decide⟩⟩
instance : IsFld Try.prog 35 1 1 1 := ⟨⟨_, _, Try.underlying35, rfl, rfl, Try.sizeOf33, by decide⟩⟩
instance : IsVar Try.prog 39 true 2 := ⟨Try.isAgg39, Try.sizeOf39⟩
instance : IsNew Try.prog 39 [vlit (.int .i64 0), vlit (.slice none 0 0)] := ⟨⟨_, Try.zeroValue39, fun _ => .cons rfl (.cons rfl (.nil))⟩⟩
instance : IsStruct Try.prog 39 [(0, 1), (1, 1)] := ⟨⟨_, Try.underlying39, fun w => by simp [Try.sizeOf3, Try.sizeOf33]⟩⟩
instance : IsFld Try.prog 39 0 0 1 := ⟨⟨_, _, Try.underlying39, rfl, rfl, Try.sizeOf3, by decide⟩⟩
instance : IsFld Try.prog 39 1 1 1 := ⟨⟨_, _, Try.underlying39, rfl, rfl, Try.sizeOf33, by decide⟩⟩
instance : IsVar Try.prog 43 false 1 := ⟨Try.isAgg43, Try.sizeOf43⟩
instance : IsNew Try.prog 43 [vlit (.slice none 0 0)] := ⟨⟨_, Try.zeroValue43, fun _ => .cons rfl (.nil)⟩⟩
instance : IsSl Try.prog 43 35 2 := ⟨Try.underlying43, Try.sizeOf35⟩
instance : IsSlM Try.prog 43 35 2 32 (.agg #[.int .i64 0, .slice none 0 0]) := ⟨⟨Try.t35, Try.underlying43, by kernel_rfl, rfl, rfl, rfl, rfl, by decide⟩⟩
instance : IsVar Try.prog 44 true 2 := ⟨Try.isAgg44, Try.sizeOf44⟩
instance : IsNew Try.prog 44 [vlit (.int .i64 0), vlit (.slice none 0 0)] := ⟨⟨_, Try.zeroValue44, fun _ => .cons rfl (.cons rfl (.nil))⟩⟩
instance : IsStruct Try.prog 44 [(0, 1), (1, 1)] := ⟨⟨_, Try.underlying44, fun w => by simp [Try.sizeOf3, Try.sizeOf43]⟩⟩
instance : IsFld Try.prog 44 0 0 1 := ⟨⟨_, _, Try.underlying44, rfl, rfl, Try.sizeOf3, by decide⟩⟩
instance : IsFld Try.prog 44 1 1 1 := ⟨⟨_, _, Try.underlying44, rfl, rfl, Try.sizeOf43, by decide⟩⟩
instance : IsVar Try.prog 45 true 2 := ⟨Try.isAgg45, Try.sizeOf45⟩
instance : IsNew Try.prog 45 [vlit (.int .i64 0), vlit (.slice none 0 0)] := ⟨⟨_, Try.zeroValue45, fun _ => .cons rfl (.cons rfl (.nil))⟩⟩
instance : IsStruct Try.prog 45 [(0, 1), (1, 1)] := ⟨⟨_, Try.underlying45, fun w => by simp [Try.sizeOf3, Try.sizeOf43]⟩⟩
instance : IsFld Try.prog 45 0 0 1 := ⟨⟨_, _, Try.underlying45, rfl, rfl, Try.sizeOf3, by decide⟩⟩
instance : IsFld Try.prog 45 1 1 1 := ⟨⟨_, _, Try.underlying45, rfl, rfl, Try.sizeOf43, by decide⟩⟩
instance : IsVar Try.prog 49 false 1 := ⟨Try.isAgg49, Try.sizeOf49⟩
instance : IsNew Try.prog 49 [vlit (.slice none 0 0)] := ⟨⟨_, Try.zeroValue49, fun _ => .cons rfl (.nil)⟩⟩
instance : IsSl Try.prog 49 39 2 := ⟨Try.underlying49, Try.sizeOf39⟩
instance : IsSlM Try.prog 49 39 2 32 (.agg #[.int .i64 0, .slice none 0 0]) := ⟨⟨Try.t39, Try.underlying49, by kernel_rfl, rfl, rfl, rfl, rfl, by decide⟩⟩
instance : IsVar Try.prog 50 true 2 := ⟨Try.isAgg50, Try.sizeOf50⟩
instance : IsNew Try.prog 50 [vlit (.int .i64 0), vlit (.slice none 0 0)] := ⟨⟨_, Try.zeroValue50, fun _ => .cons rfl (.cons rfl (.nil))⟩⟩
instance : IsStruct Try.prog 50 [(0, 1), (1, 1)] := ⟨⟨_, Try.underlying50, fun w => by simp [Try.sizeOf3, Try.sizeOf49]⟩⟩
instance : IsFld Try.prog 50 0 0 1 := ⟨⟨_, _, Try.underlying50, rfl, rfl, Try.sizeOf3, by decide⟩⟩
instance : IsFld Try.prog 50 1 1 1 := ⟨⟨_, _, Try.underlying50, rfl, rfl, Try.sizeOf49, by decide⟩⟩
instance : IsVar Try.prog 51 true 2 := ⟨Try.isAgg51, Try.sizeOf51⟩
instance : IsNew Try.prog 51 [vlit (.int .i64 0), vlit (.slice none 0 0)] := ⟨⟨_, Try.zeroValue51, fun _ => .cons rfl (.cons rfl (.nil))⟩⟩
instance : IsStruct Try.prog 51 [(0, 1), (1, 1)] := ⟨⟨_, Try.underlying51, fun w => by simp [Try.sizeOf3, Try.sizeOf49]⟩⟩
instance : IsFld Try.prog 51 0 0 1 := ⟨⟨_, _, Try.underlying51, rfl, rfl, Try.sizeOf3, by decide⟩⟩
instance : IsFld Try.prog 51 1 1 1 := ⟨⟨_, _, Try.underlying51, rfl, rfl, Try.sizeOf49, by decide⟩⟩
instance : IsVar Try.prog 64 false 1 := ⟨Try.isAgg64, Try.sizeOf64⟩
instance : IsNew Try.prog 64 [vlit (.slice none 0 0)] := ⟨⟨_, Try.zeroValue64, fun _ => .cons rfl (.nil)⟩⟩
instance : IsSl Try.prog 64 24 2 := ⟨Try.underlying64, Try.sizeOf24⟩
instance : IsSlM Try.prog 64 24 2 32 (.agg #[.int .i64 0, .slice none 0 0]) := ⟨⟨Try.t24, Try.underlying64, by kernel_rfl, rfl, rfl, rfl, rfl, by decide⟩⟩
instance : IsVar Try.prog 68 false 1 := ⟨Try.isAgg68, Try.sizeOf68⟩
instance : IsNew Try.prog 68 [vlit (.slice none 0 0)] := ⟨⟨_, Try.zeroValue68, fun _ => .cons rfl (.nil)⟩⟩
instance : IsSl Try.prog 68 26 2 := ⟨Try.underlying68, Try.sizeOf26⟩
instance : IsSlM Try.prog 68 26 2 32 (.agg #[.int .i64 0, .slice none 0 0]) := ⟨⟨Try.t26, Try.underlying68, by kernel_rfl, rfl, rfl, rfl, rfl, by decide⟩⟩
instance : IsVar Try.prog 90 false 1 := ⟨Try.isAgg90, Try.sizeOf90⟩
instance : IsNew Try.prog 90 [vlit (.map none)] := ⟨⟨_, Try.zeroValue90, fun _ => .cons rfl (.nil)⟩⟩
instance : IsSet Try.prog 90 := ⟨⟨_, _, Try.underlying90, Try.underlying9, Try.zeroValue4⟩⟩
instance : IsVar Try.prog 97 false 1 := ⟨Try.isAgg97, Try.sizeOf97⟩
instance : IsNew Try.prog 97 [vlit (.slice none 0 0)] := ⟨⟨_, Try.zeroValue97, fun _ => .cons rfl (.nil)⟩⟩
instance : IsSl Try.prog 97 133 2 := ⟨Try.underlying97, Try.sizeOf133⟩
instance : IsSlM Try.prog 97 133 2 32 (.agg #[.int .i64 0, .slice none 0 0]) := ⟨⟨Try.t133, Try.underlying97, by kernel_rfl, rfl, rfl, rfl, rfl, by decide⟩⟩
instance : IsVar Try.prog 98 true 3 := ⟨Try.isAgg98, Try.sizeOf98⟩
instance : IsNew Try.prog 98 [vlit (.slice none 0 0), vlit (.slice none 0 0), vlit (.bool false)] := ⟨⟨_, Try.zeroValue98, fun _ => .cons rfl (.cons rfl (.cons rfl (.nil)))⟩⟩
instance : IsStruct Try.prog 98 [(0, 1), (1, 1), (2, 1)] := ⟨⟨_, Try.underlying98, fun w => by simp [Try.sizeOf4, Try.sizeOf22, Try.sizeOf97]⟩⟩
instance : IsFld Try.prog 98 0 0 1 := ⟨⟨_, _, Try.underlying98, rfl, rfl, Try.sizeOf22, by decide⟩⟩
instance : IsFld Try.prog 98 1 1 1 := ⟨⟨_, _, Try.underlying98, rfl, rfl, Try.sizeOf97, by decide⟩⟩
instance : IsFld Try.prog 98 2 2 1 := ⟨⟨_, _, Try.underlying98, rfl, rfl, Try.sizeOf4, by decide⟩⟩
instance : IsVar Try.prog 99 true 3 := ⟨Try.isAgg99, Try.sizeOf99⟩
instance : IsNew Try.prog 99 [vlit (.slice none 0 0), vlit (.slice none 0 0), vlit (.bool false)] := ⟨⟨_, Try.zeroValue99, fun _ => .cons rfl (.cons rfl (.cons rfl (.nil)))⟩⟩
instance : IsStruct Try.prog 99 [(0, 1), (1, 1), (2, 1)] := ⟨⟨_, Try.underlying99, fun w => by simp [Try.sizeOf4, Try.sizeOf22, Try.sizeOf97]⟩⟩
instance : IsFld Try.prog 99 0 0 1 := ⟨⟨_, _, Try.underlying99, rfl, rfl, Try.sizeOf22, by decide⟩⟩
instance : IsFld Try.prog 99 1 1 1 := ⟨⟨_, _, Try.underlying99, rfl, rfl, Try.sizeOf97, by decide⟩⟩
instance : IsFld Try.prog 99 2 2 1 := ⟨⟨_, _, Try.underlying99, rfl, rfl, Try.sizeOf4, by decide⟩⟩
instance : IsVar Try.prog 102 false 1 := ⟨Try.isAgg102, Try.sizeOf102⟩
instance : IsNew Try.prog 102 [vlit (.pointer none)] := ⟨⟨_, Try.zeroValue102, fun _ => .cons rfl (.nil)⟩⟩
instance : IsVar Try.prog 105 true 3 := ⟨Try.isAgg105, Try.sizeOf105⟩
instance : IsNew Try.prog 105 [vlit (.slice none 0 0), vlit (.slice none 0 0), vlit (.map none)] := ⟨⟨_, Try.zeroValue105, fun _ => .cons rfl (.cons rfl (.cons rfl (.nil)))⟩⟩
instance : IsStruct Try.prog 105 [(0, 1), (1, 1), (2, 1)] := ⟨⟨_, Try.underlying105, fun w => by simp [Try.sizeOf22, Try.sizeOf90, Try.sizeOf97]⟩⟩
instance : IsFld Try.prog 105 0 0 1 := ⟨⟨_, _, Try.underlying105, rfl, rfl, Try.sizeOf22, by decide⟩⟩
instance : IsFld Try.prog 105 1 1 1 := ⟨⟨_, _, Try.underlying105, rfl, rfl, Try.sizeOf97, by decide⟩⟩
instance : IsFld Try.prog 105 2 2 1 := ⟨⟨_, _, Try.underlying105, rfl, rfl, Try.sizeOf90, by decide⟩⟩
instance : IsVar Try.prog 106 true 3 := ⟨Try.isAgg106, Try.sizeOf106⟩
instance : IsNew Try.prog 106 [vlit (.slice none 0 0), vlit (.slice none 0 0), vlit (.map none)] := ⟨⟨_, Try.zeroValue106, fun _ => .cons rfl (.cons rfl (.cons rfl (.nil)))⟩⟩
instance : IsStruct Try.prog 106 [(0, 1), (1, 1), (2, 1)] := ⟨⟨_, Try.underlying106, fun w => by simp [Try.sizeOf22, Try.sizeOf90, Try.sizeOf97]⟩⟩
instance : IsFld Try.prog 106 0 0 1 := ⟨⟨_, _, Try.underlying106, rfl, rfl, Try.sizeOf22, by decide⟩⟩
instance : IsFld Try.prog 106 1 1 1 := ⟨⟨_, _, Try.underlying106, rfl, rfl, Try.sizeOf97, by decide⟩⟩
instance : IsFld Try.prog 106 2 2 1 := ⟨⟨_, _, Try.underlying106, rfl, rfl, Try.sizeOf90, by decide⟩⟩
instance : IsVar Try.prog 127 false 1 := ⟨Try.isAgg127, Try.sizeOf127⟩
instance : IsNew Try.prog 127 [vlit (.slice none 0 0)] := ⟨⟨_, Try.zeroValue127, fun _ => .cons rfl (.nil)⟩⟩
instance : IsSl Try.prog 127 5 1 := ⟨Try.underlying127, Try.sizeOf5⟩
instance : IsSlM Try.prog 127 5 1 1 (.int .u8 0) := ⟨⟨Try.t5, Try.underlying127, by kernel_rfl, rfl, rfl, rfl, rfl, by decide⟩⟩
instance : IsVar Try.prog 128 false 1 := ⟨Try.isAgg128, Try.sizeOf128⟩
instance : IsNew Try.prog 128 [vlit (.int .u64 0)] := ⟨⟨_, Try.zeroValue128, fun _ => .cons rfl (.nil)⟩⟩
instance : IsVar Try.prog 132 true 2 := ⟨Try.isAgg132, Try.sizeOf132⟩
instance : IsNew Try.prog 132 [vlit (.int .i64 0), vlit (.slice none 0 0)] := ⟨⟨_, Try.zeroValue132, fun _ => .cons rfl (.cons rfl (.nil))⟩⟩
instance : IsStruct Try.prog 132 [(0, 1), (1, 1)] := ⟨⟨_, Try.underlying132, fun w => by simp [Try.sizeOf3, Try.sizeOf33]⟩⟩
instance : IsFld Try.prog 132 0 0 1 := ⟨⟨_, _, Try.underlying132, rfl, rfl, Try.sizeOf3, by decide⟩⟩
instance : IsFld Try.prog 132 1 1 1 := ⟨⟨_, _, Try.underlying132, rfl, rfl, Try.sizeOf33, by decide⟩⟩
instance : IsVar Try.prog 133 true 2 := ⟨Try.isAgg133, Try.sizeOf133⟩
instance : IsNew Try.prog 133 [vlit (.int .i64 0), vlit (.slice none 0 0)] := ⟨⟨_, Try.zeroValue133, fun _ => .cons rfl (.cons rfl (.nil))⟩⟩
instance : IsStruct Try.prog 133 [(0, 1), (1, 1)] := ⟨⟨_, Try.underlying133, fun w => by simp [Try.sizeOf3, Try.sizeOf33]⟩⟩
instance : IsFld Try.prog 133 0 0 1 := ⟨⟨_, _, Try.underlying133, rfl, rfl, Try.sizeOf3, by decide⟩⟩
instance : IsFld Try.prog 133 1 1 1 := ⟨⟨_, _, Try.underlying133, rfl, rfl, Try.sizeOf33, by decide⟩⟩
instance : IsVar Try.prog 144 false 1 := ⟨Try.isAgg144, Try.sizeOf144⟩
instance : IsNew Try.prog 144 [vlit (.int .u64 0)] := ⟨⟨_, Try.zeroValue144, fun _ => .cons rfl (.nil)⟩⟩
instance : IsVar Try.prog 145 true 3 := ⟨Try.isAgg145, Try.sizeOf145⟩
instance : IsNew Try.prog 145 [vlit (.pointer none), vlit (.pointer none), vlit (.int .u64 0)] := ⟨⟨_, Try.zeroValue145, fun _ => .cons rfl (.cons rfl (.cons rfl (.nil)))⟩⟩
instance : IsStruct Try.prog 145 [(0, 1), (1, 1), (2, 1)] := ⟨⟨_, Try.underlying145, fun w => by simp [Try.sizeOf17, Try.sizeOf143, Try.sizeOf144]⟩⟩
instance : IsFld Try.prog 145 0 0 1 := ⟨⟨_, _, Try.underlying145, rfl, rfl, Try.sizeOf17, by decide⟩⟩
instance : IsFld Try.prog 145 1 1 1 := ⟨⟨_, _, Try.underlying145, rfl, rfl, Try.sizeOf143, by decide⟩⟩
instance : IsFld Try.prog 145 2 2 1 := ⟨⟨_, _, Try.underlying145, rfl, rfl, Try.sizeOf144, by decide⟩⟩
instance : IsVar Try.prog 146 true 3 := ⟨Try.isAgg146, Try.sizeOf146⟩
instance : IsNew Try.prog 146 [vlit (.pointer none), vlit (.pointer none), vlit (.int .u64 0)] := ⟨⟨_, Try.zeroValue146, fun _ => .cons rfl (.cons rfl (.cons rfl (.nil)))⟩⟩
instance : IsStruct Try.prog 146 [(0, 1), (1, 1), (2, 1)] := ⟨⟨_, Try.underlying146, fun w => by simp [Try.sizeOf17, Try.sizeOf143, Try.sizeOf144]⟩⟩
instance : IsFld Try.prog 146 0 0 1 := ⟨⟨_, _, Try.underlying146, rfl, rfl, Try.sizeOf17, by decide⟩⟩
instance : IsFld Try.prog 146 1 1 1 := ⟨⟨_, _, Try.underlying146, rfl, rfl, Try.sizeOf143, by decide⟩⟩
instance : IsFld Try.prog 146 2 2 1 := ⟨⟨_, _, Try.underlying146, rfl, rfl, Try.sizeOf144, by decide⟩⟩
instance : IsVar Try.prog 151 true 2 := ⟨Try.isAgg151, Try.sizeOf151⟩
instance : IsNew Try.prog 151 [vlit (.nilFunc), vlit (.nilFunc)] := ⟨⟨_, Try.zeroValue151, fun _ => .cons rfl (.cons rfl (.nil))⟩⟩
instance : IsStruct Try.prog 151 [(0, 1), (1, 1)] := ⟨⟨_, Try.underlying151, fun w => by simp [Try.sizeOf96, Try.sizeOf148]⟩⟩
instance : IsFld Try.prog 151 0 0 1 := ⟨⟨_, _, Try.underlying151, rfl, rfl, Try.sizeOf96, by decide⟩⟩
instance : IsFld Try.prog 151 1 1 1 := ⟨⟨_, _, Try.underlying151, rfl, rfl, Try.sizeOf148, by decide⟩⟩
instance : IsVar Try.prog 152 true 2 := ⟨Try.isAgg152, Try.sizeOf152⟩
instance : IsNew Try.prog 152 [vlit (.nilFunc), vlit (.nilFunc)] := ⟨⟨_, Try.zeroValue152, fun _ => .cons rfl (.cons rfl (.nil))⟩⟩
instance : IsStruct Try.prog 152 [(0, 1), (1, 1)] := ⟨⟨_, Try.underlying152, fun w => by simp [Try.sizeOf96, Try.sizeOf148]⟩⟩
instance : IsFld Try.prog 152 0 0 1 := ⟨⟨_, _, Try.underlying152, rfl, rfl, Try.sizeOf96, by decide⟩⟩
instance : IsFld Try.prog 152 1 1 1 := ⟨⟨_, _, Try.underlying152, rfl, rfl, Try.sizeOf148, by decide⟩⟩
instance : IsVar Try.prog 154 true 1 := ⟨Try.isAgg154, Try.sizeOf154⟩
instance : IsNew Try.prog 154 [vlit (.pointer none)] := ⟨⟨_, Try.zeroValue154, fun _ => .cons rfl (.nil)⟩⟩
instance : IsStruct Try.prog 154 [(0, 1)] := ⟨⟨_, Try.underlying154, fun w => by simp [Try.sizeOf17]⟩⟩
instance : IsFld Try.prog 154 0 0 1 := ⟨⟨_, _, Try.underlying154, rfl, rfl, Try.sizeOf17, by decide⟩⟩
instance : IsVar Try.prog 155 true 1 := ⟨Try.isAgg155, Try.sizeOf155⟩
instance : IsNew Try.prog 155 [vlit (.pointer none)] := ⟨⟨_, Try.zeroValue155, fun _ => .cons rfl (.nil)⟩⟩
instance : IsStruct Try.prog 155 [(0, 1)] := ⟨⟨_, Try.underlying155, fun w => by simp [Try.sizeOf17]⟩⟩
instance : IsFld Try.prog 155 0 0 1 := ⟨⟨_, _, Try.underlying155, rfl, rfl, Try.sizeOf17, by decide⟩⟩
instance : IsVar Try.prog 156 false 1 := ⟨Try.isAgg156, Try.sizeOf156⟩
instance : IsNew Try.prog 156 [vlit (.pointer none)] := ⟨⟨_, Try.zeroValue156, fun _ => .cons rfl (.nil)⟩⟩
instance : IsVar Try.prog 160 true 4 := ⟨Try.isAgg160, Try.sizeOf160⟩
instance : IsNew Try.prog 160 [vlit (.pointer none), vlit (.pointer none), vlit (.pointer none), vlit (.string .empty)] := ⟨⟨_, Try.zeroValue160, fun _ => .cons rfl (.cons rfl (.cons rfl (.cons rfl (.nil))))⟩⟩
instance : IsStruct Try.prog 160 [(0, 1), (1, 1), (2, 1), (3, 1)] := ⟨⟨_, Try.underlying160, fun w => by simp [Try.sizeOf9, Try.sizeOf17]⟩⟩
instance : IsFld Try.prog 160 0 0 1 := ⟨⟨_, _, Try.underlying160, rfl, rfl, Try.sizeOf17, by decide⟩⟩
instance : IsFld Try.prog 160 1 1 1 := ⟨⟨_, _, Try.underlying160, rfl, rfl, Try.sizeOf17, by decide⟩⟩
instance : IsFld Try.prog 160 2 2 1 := ⟨⟨_, _, Try.underlying160, rfl, rfl, Try.sizeOf17, by decide⟩⟩
instance : IsFld Try.prog 160 3 3 1 := ⟨⟨_, _, Try.underlying160, rfl, rfl, Try.sizeOf9, by decide⟩⟩
instance : IsVar Try.prog 161 true 4 := ⟨Try.isAgg161, Try.sizeOf161⟩
instance : IsNew Try.prog 161 [vlit (.pointer none), vlit (.pointer none), vlit (.pointer none), vlit (.string .empty)] := ⟨⟨_, Try.zeroValue161, fun _ => .cons rfl (.cons rfl (.cons rfl (.cons rfl (.nil))))⟩⟩
instance : IsStruct Try.prog 161 [(0, 1), (1, 1), (2, 1), (3, 1)] := ⟨⟨_, Try.underlying161, fun w => by simp [Try.sizeOf9, Try.sizeOf17]⟩⟩
instance : IsFld Try.prog 161 0 0 1 := ⟨⟨_, _, Try.underlying161, rfl, rfl, Try.sizeOf17, by decide⟩⟩
instance : IsFld Try.prog 161 1 1 1 := ⟨⟨_, _, Try.underlying161, rfl, rfl, Try.sizeOf17, by decide⟩⟩
instance : IsFld Try.prog 161 2 2 1 := ⟨⟨_, _, Try.underlying161, rfl, rfl, Try.sizeOf17, by decide⟩⟩
instance : IsFld Try.prog 161 3 3 1 := ⟨⟨_, _, Try.underlying161, rfl, rfl, Try.sizeOf9, by decide⟩⟩
instance : IsVar Try.prog 162 true 0 := ⟨Try.isAgg162, Try.sizeOf162⟩
instance : IsNew Try.prog 162 [] := ⟨⟨_, Try.zeroValue162, fun _ => .nil⟩⟩
instance : IsVar Try.prog 163 true 0 := ⟨Try.isAgg163, Try.sizeOf163⟩
instance : IsNew Try.prog 163 [] := ⟨⟨_, Try.zeroValue163, fun _ => .nil⟩⟩
instance : IsVar Try.prog 164 true 0 := ⟨Try.isAgg164, Try.sizeOf164⟩
instance : IsNew Try.prog 164 [] := ⟨⟨_, Try.zeroValue164, fun _ => .nil⟩⟩
instance : IsVar Try.prog 165 false 1 := ⟨Try.isAgg165, Try.sizeOf165⟩
instance : IsNew Try.prog 165 [vlit (.int .u32 0)] := ⟨⟨_, Try.zeroValue165, fun _ => .cons rfl (.nil)⟩⟩
instance : IsVar Try.prog 166 false 1 := ⟨Try.isAgg166, Try.sizeOf166⟩
instance : IsNew Try.prog 166 [vlit (.int .u8 0)] := ⟨⟨_, Try.zeroValue166, fun _ => .cons rfl (.nil)⟩⟩
instance : IsU8 Try.prog 166 := ⟨Try.underlying166⟩
instance : IsVar Try.prog 167 false 1 := ⟨Try.isAgg167, Try.sizeOf167⟩
instance : IsNew Try.prog 167 [vlit (.int .u8 0)] := ⟨⟨_, Try.zeroValue167, fun _ => .cons rfl (.nil)⟩⟩
instance : IsU8 Try.prog 167 := ⟨Try.underlying167⟩
instance : IsVar Try.prog 169 false 1 := ⟨Try.isAgg169, Try.sizeOf169⟩
instance : IsNew Try.prog 169 [vlit (.pointer none)] := ⟨⟨_, Try.zeroValue169, fun _ => .cons rfl (.nil)⟩⟩
instance : IsVar Try.prog 170 false 1 := ⟨Try.isAgg170, Try.sizeOf170⟩
instance : IsNew Try.prog 170 [vlit (.int .i32 0)] := ⟨⟨_, Try.zeroValue170, fun _ => .cons rfl (.nil)⟩⟩
instance : IsVar Try.prog 171 false 1 := ⟨Try.isAgg171, Try.sizeOf171⟩
instance : IsNew Try.prog 171 [vlit (.int .i32 0)] := ⟨⟨_, Try.zeroValue171, fun _ => .cons rfl (.nil)⟩⟩
instance : IsVar Try.prog 172 true 11 := ⟨Try.isAgg172, Try.sizeOf172⟩
instance : IsNew Try.prog 172 [vlit (.int .u64 0), vlit (.int .u64 0), vlit (.int .u32 0), vlit (.int .u8 0), vlit (.int .u8 0), vlit (.int .u8 0), vlit (.int .u8 0), vlit (.nilFunc), vlit (.pointer none), vlit (.int .i32 0), vlit (.int .i32 0)] := ⟨⟨_, Try.zeroValue172, fun _ => .cons rfl (.cons rfl (.cons rfl (.cons rfl (.cons rfl (.cons rfl (.cons rfl (.cons rfl (.cons rfl (.cons rfl (.cons rfl (.nil)))))))))))⟩⟩
instance : IsStruct Try.prog 172 [(0, 1), (1, 1), (2, 1), (3, 1), (4, 1), (5, 1), (6, 1), (7, 1), (8, 1), (9, 1), (10, 1)] := ⟨⟨_, Try.underlying172, fun w => by simp [Try.sizeOf5, Try.sizeOf12, Try.sizeOf165, Try.sizeOf166, Try.sizeOf167, Try.sizeOf168, Try.sizeOf169, Try.sizeOf170, Try.sizeOf171]⟩⟩
instance : IsFld Try.prog 172 0 0 1 := ⟨⟨_, _, Try.underlying172, rfl, rfl, Try.sizeOf12, by decide⟩⟩
instance : IsFld Try.prog 172 1 1 1 := ⟨⟨_, _, Try.underlying172, rfl, rfl, Try.sizeOf12, by decide⟩⟩
instance : IsFld Try.prog 172 2 2 1 := ⟨⟨_, _, Try.underlying172, rfl, rfl, Try.sizeOf165, by decide⟩⟩
instance : IsFld Try.prog 172 3 3 1 := ⟨⟨_, _, Try.underlying172, rfl, rfl, Try.sizeOf166, by decide⟩⟩
instance : IsFld Try.prog 172 4 4 1 := ⟨⟨_, _, Try.underlying172, rfl, rfl, Try.sizeOf5, by decide⟩⟩
instance : IsFld Try.prog 172 5 5 1 := ⟨⟨_, _, Try.underlying172, rfl, rfl, Try.sizeOf5, by decide⟩⟩
instance : IsFld Try.prog 172 6 6 1 := ⟨⟨_, _, Try.underlying172, rfl, rfl, Try.sizeOf167, by decide⟩⟩
instance : IsFld Try.prog 172 7 7 1 := ⟨⟨_, _, Try.underlying172, rfl, rfl, Try.sizeOf168, by decide⟩⟩
instance : IsFld Try.prog 172 8 8 1 := ⟨⟨_, _, Try.underlying172, rfl, rfl, Try.sizeOf169, by decide⟩⟩
instance : IsFld Try.prog 172 9 9 1 := ⟨⟨_, _, Try.underlying172, rfl, rfl, Try.sizeOf170, by decide⟩⟩
instance : IsFld Try.prog 172 10 10 1 := ⟨⟨_, _, Try.underlying172, rfl, rfl, Try.sizeOf171, by decide⟩⟩
instance : IsVar Try.prog 173 true 11 := ⟨Try.isAgg173, Try.sizeOf173⟩
instance : IsNew Try.prog 173 [vlit (.int .u64 0), vlit (.int .u64 0), vlit (.int .u32 0), vlit (.int .u8 0), vlit (.int .u8 0), vlit (.int .u8 0), vlit (.int .u8 0), vlit (.nilFunc), vlit (.pointer none), vlit (.int .i32 0), vlit (.int .i32 0)] := ⟨⟨_, Try.zeroValue173, fun _ => .cons rfl (.cons rfl (.cons rfl (.cons rfl (.cons rfl (.cons rfl (.cons rfl (.cons rfl (.cons rfl (.cons rfl (.cons rfl (.nil)))))))))))⟩⟩
instance : IsStruct Try.prog 173 [(0, 1), (1, 1), (2, 1), (3, 1), (4, 1), (5, 1), (6, 1), (7, 1), (8, 1), (9, 1), (10, 1)] := ⟨⟨_, Try.underlying173, fun w => by simp [Try.sizeOf5, Try.sizeOf12, Try.sizeOf165, Try.sizeOf166, Try.sizeOf167, Try.sizeOf168, Try.sizeOf169, Try.sizeOf170, Try.sizeOf171]⟩⟩
instance : IsFld Try.prog 173 0 0 1 := ⟨⟨_, _, Try.underlying173, rfl, rfl, Try.sizeOf12, by decide⟩⟩
instance : IsFld Try.prog 173 1 1 1 := ⟨⟨_, _, Try.underlying173, rfl, rfl, Try.sizeOf12, by decide⟩⟩
instance : IsFld Try.prog 173 2 2 1 := ⟨⟨_, _, Try.underlying173, rfl, rfl, Try.sizeOf165, by decide⟩⟩
instance : IsFld Try.prog 173 3 3 1 := ⟨⟨_, _, Try.underlying173, rfl, rfl, Try.sizeOf166, by decide⟩⟩
instance : IsFld Try.prog 173 4 4 1 := ⟨⟨_, _, Try.underlying173, rfl, rfl, Try.sizeOf5, by decide⟩⟩
instance : IsFld Try.prog 173 5 5 1 := ⟨⟨_, _, Try.underlying173, rfl, rfl, Try.sizeOf5, by decide⟩⟩
instance : IsFld Try.prog 173 6 6 1 := ⟨⟨_, _, Try.underlying173, rfl, rfl, Try.sizeOf167, by decide⟩⟩
instance : IsFld Try.prog 173 7 7 1 := ⟨⟨_, _, Try.underlying173, rfl, rfl, Try.sizeOf168, by decide⟩⟩
instance : IsFld Try.prog 173 8 8 1 := ⟨⟨_, _, Try.underlying173, rfl, rfl, Try.sizeOf169, by decide⟩⟩
instance : IsFld Try.prog 173 9 9 1 := ⟨⟨_, _, Try.underlying173, rfl, rfl, Try.sizeOf170, by decide⟩⟩
instance : IsFld Try.prog 173 10 10 1 := ⟨⟨_, _, Try.underlying173, rfl, rfl, Try.sizeOf171, by decide⟩⟩
instance : IsVar Try.prog 174 true 2 := ⟨Try.isAgg174, Try.sizeOf174⟩
instance : IsNew Try.prog 174 [vlit (.string .empty), vlit (.int .u8 0)] := ⟨⟨_, Try.zeroValue174, fun _ => .cons rfl (.cons rfl (.nil))⟩⟩
instance : IsStruct Try.prog 174 [(0, 1), (1, 1)] := ⟨⟨_, Try.underlying174, fun w => by simp [Try.sizeOf9, Try.sizeOf167]⟩⟩
instance : IsFld Try.prog 174 0 0 1 := ⟨⟨_, _, Try.underlying174, rfl, rfl, Try.sizeOf9, by decide⟩⟩
instance : IsFld Try.prog 174 1 1 1 := ⟨⟨_, _, Try.underlying174, rfl, rfl, Try.sizeOf167, by decide⟩⟩
instance : IsVar Try.prog 175 true 2 := ⟨Try.isAgg175, Try.sizeOf175⟩
instance : IsNew Try.prog 175 [vlit (.string .empty), vlit (.int .u8 0)] := ⟨⟨_, Try.zeroValue175, fun _ => .cons rfl (.cons rfl (.nil))⟩⟩
instance : IsStruct Try.prog 175 [(0, 1), (1, 1)] := ⟨⟨_, Try.underlying175, fun w => by simp [Try.sizeOf9, Try.sizeOf167]⟩⟩
instance : IsFld Try.prog 175 0 0 1 := ⟨⟨_, _, Try.underlying175, rfl, rfl, Try.sizeOf9, by decide⟩⟩
instance : IsFld Try.prog 175 1 1 1 := ⟨⟨_, _, Try.underlying175, rfl, rfl, Try.sizeOf167, by decide⟩⟩
end Go.Proofs.Ytihgkbhgpajklaa
