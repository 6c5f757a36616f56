/- The facts on the types of this translation, as class instances. No conditions. -/
import Derived.Test.YtemfpennomelaaaDoorProg
import Derived.KernelRfl
import Derived.Test.YtemfpennomelaaaDoorCoreZ
namespace Go.Proofs.YtemfpennomelaaaDoor
open Go Go.Proofs

instance : IsVar Tryd.prog 1 false 1 := ⟨Tryd.isAgg1, Tryd.sizeOf1⟩
instance : IsNew Tryd.prog 1 [vlit (.nilFunc)] := ⟨⟨_, Tryd.zeroValue1, fun _ => .cons rfl (.nil)⟩⟩
instance : IsVar Tryd.prog 2 false 1 := ⟨Tryd.isAgg2, Tryd.sizeOf2⟩
instance : IsNew Tryd.prog 2 [vlit (.int .i64 0)] := ⟨⟨_, Tryd.zeroValue2, fun _ => .cons rfl (.nil)⟩⟩
instance : IsI64 Tryd.prog 2 := ⟨Tryd.underlying2⟩
instance : IsVar Tryd.prog 3 false 1 := ⟨Tryd.isAgg3, Tryd.sizeOf3⟩
instance : IsNew Tryd.prog 3 [vlit (.int .i64 0)] := ⟨⟨_, Tryd.zeroValue3, fun _ => .cons rfl (.nil)⟩⟩
instance : IsI64 Tryd.prog 3 := ⟨Tryd.underlying3⟩
instance : IsVar Tryd.prog 4 false 1 := ⟨Tryd.isAgg4, Tryd.sizeOf4⟩
instance : IsNew Tryd.prog 4 [vlit (.bool false)] := ⟨⟨_, Tryd.zeroValue4, fun _ => .cons rfl (.nil)⟩⟩
instance : IsBool Tryd.prog 4 := ⟨Tryd.underlying4⟩
instance : IsVar Tryd.prog 5 false 1 := ⟨Tryd.isAgg5, Tryd.sizeOf5⟩
instance : IsNew Tryd.prog 5 [vlit (.int .u8 0)] := ⟨⟨_, Tryd.zeroValue5, fun _ => .cons rfl (.nil)⟩⟩
instance : IsU8 Tryd.prog 5 := ⟨Tryd.underlying5⟩
instance : IsVar Tryd.prog 6 false 1 := ⟨Tryd.isAgg6, Tryd.sizeOf6⟩
instance : IsNew Tryd.prog 6 [vlit (.int .u8 0)] := ⟨⟨_, Tryd.zeroValue6, fun _ => .cons rfl (.nil)⟩⟩
instance : IsU8 Tryd.prog 6 := ⟨Tryd.underlying6⟩
instance : IsVar Tryd.prog 7 true 4 := ⟨Tryd.isAgg7, Tryd.sizeOf7⟩
instance : IsNew Tryd.prog 7 [vlit (.int .i64 0), vlit (.int .i64 0), vlit (.bool false), vlit (.int .u8 0)] := ⟨⟨_, Tryd.zeroValue7, fun _ => .cons rfl (.cons rfl (.cons rfl (.cons rfl (.nil))))⟩⟩
instance : IsStruct Tryd.prog 7 [(0, 1), (1, 1), (2, 1), (3, 1)] := ⟨⟨_, Tryd.underlying7, fun w => by simp [Tryd.sizeOf2, Tryd.sizeOf3, Tryd.sizeOf4, Tryd.sizeOf6]⟩⟩
instance : IsFld Tryd.prog 7 0 0 1 := ⟨⟨_, _, Tryd.underlying7, rfl, rfl, Tryd.sizeOf2, by decide⟩⟩
instance : IsFld Tryd.prog 7 1 1 1 := ⟨⟨_, _, Tryd.underlying7, rfl, rfl, Tryd.sizeOf3, by decide⟩⟩
instance : IsFld Tryd.prog 7 2 2 1 := ⟨⟨_, _, Tryd.underlying7, rfl, rfl, Tryd.sizeOf4, by decide⟩⟩
instance : IsFld Tryd.prog 7 3 3 1 := ⟨⟨_, _, Tryd.underlying7, rfl, rfl, Tryd.sizeOf6, by decide⟩⟩
instance : IsVar Tryd.prog 8 true 4 := ⟨Tryd.isAgg8, Tryd.sizeOf8⟩
instance : IsNew Tryd.prog 8 [vlit (.int .i64 0), vlit (.int .i64 0), vlit (.bool false), vlit (.int .u8 0)] := ⟨⟨_, Tryd.zeroValue8, fun _ => .cons rfl (.cons rfl (.cons rfl (.cons rfl (.nil))))⟩⟩
instance : IsStruct Tryd.prog 8 [(0, 1), (1, 1), (2, 1), (3, 1)] := ⟨⟨_, Tryd.underlying8, fun w => by simp [Tryd.sizeOf2, Tryd.sizeOf3, Tryd.sizeOf4, Tryd.sizeOf6]⟩⟩
instance : IsFld Tryd.prog 8 0 0 1 := ⟨⟨_, _, Tryd.underlying8, rfl, rfl, Tryd.sizeOf2, by decide⟩⟩
instance : IsFld Tryd.prog 8 1 1 1 := ⟨⟨_, _, Tryd.underlying8, rfl, rfl, Tryd.sizeOf3, by decide⟩⟩
instance : IsFld Tryd.prog 8 2 2 1 := ⟨⟨_, _, Tryd.underlying8, rfl, rfl, Tryd.sizeOf4, by decide⟩⟩
instance : IsFld Tryd.prog 8 3 3 1 := ⟨⟨_, _, Tryd.underlying8, rfl, rfl, Tryd.sizeOf6, by decide⟩⟩
instance : IsVar Tryd.prog 9 false 1 := ⟨Tryd.isAgg9, Tryd.sizeOf9⟩
instance : IsNew Tryd.prog 9 [vlit (.string .empty)] := ⟨⟨_, Tryd.zeroValue9, fun _ => .cons rfl (.nil)⟩⟩
instance : IsStr Tryd.prog 9 := ⟨Tryd.underlying9⟩
instance : IsVar Tryd.prog 10 false 1 := ⟨Tryd.isAgg10, Tryd.sizeOf10⟩
instance : IsNew Tryd.prog 10 [vlit (.string .empty)] := ⟨⟨_, Tryd.zeroValue10, fun _ => .cons rfl (.nil)⟩⟩
instance : IsStr Tryd.prog 10 := ⟨Tryd.underlying10⟩
instance : IsVar Tryd.prog 11 false 1 := ⟨Tryd.isAgg11, Tryd.sizeOf11⟩
instance : IsNew Tryd.prog 11 [vlit (.string .empty)] := ⟨⟨_, Tryd.zeroValue11, fun _ => .cons rfl (.nil)⟩⟩
instance : IsStr Tryd.prog 11 := ⟨Tryd.underlying11⟩
instance : IsVar Tryd.prog 12 false 1 := ⟨Tryd.isAgg12, Tryd.sizeOf12⟩
instance : IsNew Tryd.prog 12 [vlit (.int .u64 0)] := ⟨⟨_, Tryd.zeroValue12, fun _ => .cons rfl (.nil)⟩⟩
instance : IsU64 Tryd.prog 12 := ⟨Tryd.underlying12⟩
instance : IsVar Tryd.prog 13 true 2 := ⟨Tryd.isAgg13, Tryd.sizeOf13⟩
instance : IsNew Tryd.prog 13 [vlit (.string .empty), vlit (.int .u64 0)] := ⟨⟨_, Tryd.zeroValue13, fun _ => .cons rfl (.cons rfl (.nil))⟩⟩
instance : IsStruct Tryd.prog 13 [(0, 1), (1, 1)] := ⟨⟨_, Tryd.underlying13, fun w => by simp [Tryd.sizeOf9, Tryd.sizeOf12]⟩⟩
instance : IsFld Tryd.prog 13 0 0 1 := ⟨⟨_, _, Tryd.underlying13, rfl, rfl, Tryd.sizeOf9, by decide⟩⟩
instance : IsFld Tryd.prog 13 1 1 1 := ⟨⟨_, _, Tryd.underlying13, rfl, rfl, Tryd.sizeOf12, by decide⟩⟩
instance : IsVar Tryd.prog 14 true 2 := ⟨Tryd.isAgg14, Tryd.sizeOf14⟩
instance : IsNew Tryd.prog 14 [vlit (.string .empty), vlit (.int .u64 0)] := ⟨⟨_, Tryd.zeroValue14, fun _ => .cons rfl (.cons rfl (.nil))⟩⟩
instance : IsStruct Tryd.prog 14 [(0, 1), (1, 1)] := ⟨⟨_, Tryd.underlying14, fun w => by simp [Tryd.sizeOf9, Tryd.sizeOf12]⟩⟩
instance : IsFld Tryd.prog 14 0 0 1 := ⟨⟨_, _, Tryd.underlying14, rfl, rfl, Tryd.sizeOf9, by decide⟩⟩
instance : IsFld Tryd.prog 14 1 1 1 := ⟨⟨_, _, Tryd.underlying14, rfl, rfl, Tryd.sizeOf12, by decide⟩⟩
instance : IsVar Tryd.prog 15 false 1 := ⟨Tryd.isAgg15, Tryd.sizeOf15⟩
instance : IsNew Tryd.prog 15 [vlit (.pointer none)] := ⟨⟨_, Tryd.zeroValue15, fun _ => .cons rfl (.nil)⟩⟩
instance : IsVar Tryd.prog 16 false 1 := ⟨Tryd.isAgg16, Tryd.sizeOf16⟩
instance : IsNew Tryd.prog 16 [vlit (.pointer none)] := ⟨⟨_, Tryd.zeroValue16, fun _ => .cons rfl (.nil)⟩⟩
instance : IsVar Tryd.prog 17 false 1 := ⟨Tryd.isAgg17, Tryd.sizeOf17⟩
instance : IsNew Tryd.prog 17 [vlit (.pointer none)] := ⟨⟨_, Tryd.zeroValue17, fun _ => .cons rfl (.nil)⟩⟩
instance : IsVar Tryd.prog 18 true 1 := ⟨Tryd.isAgg18, Tryd.sizeOf18⟩
instance : IsNew Tryd.prog 18 [vlit (.pointer none)] := ⟨⟨_, Tryd.zeroValue18, fun _ => .cons rfl (.nil)⟩⟩
instance : IsStruct Tryd.prog 18 [(0, 1)] := ⟨⟨_, Tryd.underlying18, fun w => by simp [Tryd.sizeOf17]⟩⟩
instance : IsFld Tryd.prog 18 0 0 1 := ⟨⟨_, _, Tryd.underlying18, rfl, rfl, Tryd.sizeOf17, by decide⟩⟩
instance : IsVar Tryd.prog 19 true 1 := ⟨Tryd.isAgg19, Tryd.sizeOf19⟩
instance : IsNew Tryd.prog 19 [vlit (.pointer none)] := ⟨⟨_, Tryd.zeroValue19, fun _ => .cons rfl (.nil)⟩⟩
instance : IsStruct Tryd.prog 19 [(0, 1)] := ⟨⟨_, Tryd.underlying19, fun w => by simp [Tryd.sizeOf17]⟩⟩
instance : IsFld Tryd.prog 19 0 0 1 := ⟨⟨_, _, Tryd.underlying19, rfl, rfl, Tryd.sizeOf17, by decide⟩⟩
instance : IsVar Tryd.prog 21 false 1 := ⟨Tryd.isAgg21, Tryd.sizeOf21⟩
instance : IsNew Tryd.prog 21 [vlit (.int .i32 0)] := ⟨⟨_, Tryd.zeroValue21, fun _ => .cons rfl (.nil)⟩⟩
instance : IsVar Tryd.prog 22 false 1 := ⟨Tryd.isAgg22, Tryd.sizeOf22⟩
instance : IsNew Tryd.prog 22 [vlit (.slice none 0 0)] := ⟨⟨_, Tryd.zeroValue22, fun _ => .cons rfl (.nil)⟩⟩
instance : IsSl Tryd.prog 22 48 2 := ⟨Tryd.underlying22, Tryd.sizeOf48⟩
instance : IsSlM Tryd.prog 22 48 2 48 (.agg #[.slice none 0 0, .slice none 0 0]) := ⟨⟨Tryd.t48, Tryd.underlying22, by kernel_rfl, rfl, rfl, rfl, rfl, by decide⟩⟩
instance : IsVar Tryd.prog 23 true 2 := ⟨Tryd.isAgg23, Tryd.sizeOf23⟩
instance : IsNew Tryd.prog 23 [vlit (.int .i64 0), vlit (.slice none 0 0)] := ⟨⟨_, Tryd.zeroValue23, fun _ => .cons rfl (.cons rfl (.nil))⟩⟩
instance : IsStruct Tryd.prog 23 [(0, 1), (1, 1)] := ⟨⟨_, Tryd.underlying23, fun w => by simp [Tryd.sizeOf3, Tryd.sizeOf22]⟩⟩
instance : IsFld Tryd.prog 23 0 0 1 := ⟨⟨_, _, Tryd.underlying23, rfl, rfl, Tryd.sizeOf3, by decide⟩⟩
instance : IsFld Tryd.prog 23 1 1 1 := ⟨⟨_, _, Tryd.underlying23, rfl, rfl, Tryd.sizeOf22, by decide⟩⟩
instance : IsVar Tryd.prog 24 true 2 := ⟨Tryd.isAgg24, Tryd.sizeOf24⟩
instance : IsNew Tryd.prog 24 [vlit (.int .i64 0), vlit (.slice none 0 0)] := ⟨⟨_, Tryd.zeroValue24, fun _ => .cons rfl (.cons rfl (.nil))⟩⟩
instance : IsStruct Tryd.prog 24 [(0, 1), (1, 1)] := ⟨⟨_, Tryd.underlying24, fun w => by simp [Tryd.sizeOf3, Tryd.sizeOf22]⟩⟩
instance : IsFld Tryd.prog 24 0 0 1 := ⟨⟨_, _, Tryd.underlying24, rfl, rfl, Tryd.sizeOf3, by decide⟩⟩
instance : IsFld Tryd.prog 24 1 1 1 := ⟨⟨_, _, Tryd.underlying24, rfl, rfl, Tryd.sizeOf22, by decide⟩⟩
instance : IsVar Tryd.prog 26 false 1 := ⟨Tryd.isAgg26, Tryd.sizeOf26⟩
instance : IsNew Tryd.prog 26 [vlit (.nilFunc)] := ⟨⟨_, Tryd.zeroValue26, fun _ => .cons rfl (.nil)⟩⟩
instance : IsVar Tryd.prog 27 false 1 := ⟨Tryd.isAgg27, Tryd.sizeOf27⟩
instance : IsNew Tryd.prog 27 [vlit (.nilFunc)] := ⟨⟨_, Tryd.zeroValue27, fun _ => .cons rfl (.nil)⟩⟩
instance : IsVar Tryd.prog 28 false 1 := ⟨Tryd.isAgg28, Tryd.sizeOf28⟩
instance : IsNew Tryd.prog 28 [vlit (.nilFunc)] := ⟨⟨_, Tryd.zeroValue28, fun _ => .cons rfl (.nil)⟩⟩
instance : IsVar Tryd.prog 29 false 1 := ⟨Tryd.isAgg29, Tryd.sizeOf29⟩
instance : IsNew Tryd.prog 29 [vlit (.nilFunc)] := ⟨⟨_, Tryd.zeroValue29, fun _ => .cons rfl (.nil)⟩⟩
instance : IsVar Tryd.prog 30 false 1 := ⟨Tryd.isAgg30, Tryd.sizeOf30⟩
instance : IsNew Tryd.prog 30 [vlit (.slice none 0 0)] := ⟨⟨_, Tryd.zeroValue30, fun _ => .cons rfl (.nil)⟩⟩
instance : IsSl Tryd.prog 30 69 2 := ⟨Tryd.underlying30, Tryd.sizeOf69⟩
instance : IsSlM Tryd.prog 30 69 2 48 (.agg #[.slice none 0 0, .slice none 0 0]) := ⟨⟨Tryd.t69, Tryd.underlying30, by kernel_rfl, rfl, rfl, rfl, rfl, by decide⟩⟩
instance : IsVar Tryd.prog 31 true 2 := ⟨Tryd.isAgg31, Tryd.sizeOf31⟩
instance : IsNew Tryd.prog 31 [vlit (.int .i64 0), vlit (.slice none 0 0)] := ⟨⟨_, Tryd.zeroValue31, fun _ => .cons rfl (.cons rfl (.nil))⟩⟩
instance : IsStruct Tryd.prog 31 [(0, 1), (1, 1)] := ⟨⟨_, Tryd.underlying31, fun w => by simp [Tryd.sizeOf3, Tryd.sizeOf30]⟩⟩
instance : IsFld Tryd.prog 31 0 0 1 := ⟨⟨_, _, Tryd.underlying31, rfl, rfl, Tryd.sizeOf3, by decide⟩⟩
instance : IsFld Tryd.prog 31 1 1 1 := ⟨⟨_, _, Tryd.underlying31, rfl, rfl, Tryd.sizeOf30, by decide⟩⟩
instance : IsVar Tryd.prog 32 true 2 := ⟨Tryd.isAgg32, Tryd.sizeOf32⟩
instance : IsNew Tryd.prog 32 [vlit (.int .i64 0), vlit (.slice none 0 0)] := ⟨⟨_, Tryd.zeroValue32, fun _ => .cons rfl (.cons rfl (.nil))⟩⟩
instance : IsStruct Tryd.prog 32 [(0, 1), (1, 1)] := ⟨⟨_, Tryd.underlying32, fun w => by simp [Tryd.sizeOf3, Tryd.sizeOf30]⟩⟩
instance : IsFld Tryd.prog 32 0 0 1 := ⟨⟨_, _, Tryd.underlying32, rfl, rfl, Tryd.sizeOf3, by decide⟩⟩
instance : IsFld Tryd.prog 32 1 1 1 := ⟨⟨_, _, Tryd.underlying32, rfl, rfl, Tryd.sizeOf30, by decide⟩⟩
instance : IsVar Tryd.prog 33 false 1 := ⟨Tryd.isAgg33, Tryd.sizeOf33⟩
instance : IsNew Tryd.prog 33 [vlit (.nilFunc)] := ⟨⟨_, Tryd.zeroValue33, fun _ => .cons rfl (.nil)⟩⟩
instance : IsVar Tryd.prog 35 false 1 := ⟨Tryd.isAgg35, Tryd.sizeOf35⟩
instance : IsNew Tryd.prog 35 [vlit (.nilFunc)] := ⟨⟨_, Tryd.zeroValue35, fun _ => .cons rfl (.nil)⟩⟩
instance : IsVar Tryd.prog 36 false 1 := ⟨Tryd.isAgg36, Tryd.sizeOf36⟩
instance : IsNew Tryd.prog 36 [vlit (.nilFunc)] := ⟨⟨_, Tryd.zeroValue36, fun _ => .cons rfl (.nil)⟩⟩
instance : IsVar Tryd.prog 37 false 1 := ⟨Tryd.isAgg37, Tryd.sizeOf37⟩
instance : IsNew Tryd.prog 37 [vlit (.nilFunc)] := ⟨⟨_, Tryd.zeroValue37, fun _ => .cons rfl (.nil)⟩⟩
instance : IsVar Tryd.prog 38 false 1 := ⟨Tryd.isAgg38, Tryd.sizeOf38⟩
instance : IsNew Tryd.prog 38 [vlit (.nilFunc)] := ⟨⟨_, Tryd.zeroValue38, fun _ => .cons rfl (.nil)⟩⟩
instance : IsVar Tryd.prog 39 false 1 := ⟨Tryd.isAgg39, Tryd.sizeOf39⟩
instance : IsNew Tryd.prog 39 [vlit (.map none)] := ⟨⟨_, Tryd.zeroValue39, fun _ => .cons rfl (.nil)⟩⟩
instance : IsVar Tryd.prog 40 false 1 := ⟨Tryd.isAgg40, Tryd.sizeOf40⟩
instance : IsNew Tryd.prog 40 [vlit (.slice none 0 0)] := ⟨⟨_, Tryd.zeroValue40, fun _ => .cons rfl (.nil)⟩⟩
instance : IsSl Tryd.prog 40 9 1 := ⟨Tryd.underlying40, Tryd.sizeOf9⟩
instance : IsSlM Tryd.prog 40 9 1 16 (.string .empty) := ⟨⟨Tryd.t9, Tryd.underlying40, by kernel_rfl, rfl, rfl, rfl, rfl, by decide⟩⟩
instance : IsVar Tryd.prog 41 false 1 := ⟨Tryd.isAgg41, Tryd.sizeOf41⟩
instance : IsNew Tryd.prog 41 [vlit (.nilFunc)] := ⟨⟨_, Tryd.zeroValue41, fun _ => .cons rfl (.nil)⟩⟩
instance : IsVar Tryd.prog 42 false 1 := ⟨Tryd.isAgg42, Tryd.sizeOf42⟩
instance : IsNew Tryd.prog 42 [vlit (.nilFunc)] := ⟨⟨_, Tryd.zeroValue42, fun _ => .cons rfl (.nil)⟩⟩
instance : IsVar Tryd.prog 44 false 1 := ⟨Tryd.isAgg44, Tryd.sizeOf44⟩
instance : IsNew Tryd.prog 44 [vlit (.nilFunc)] := ⟨⟨_, Tryd.zeroValue44, fun _ => .cons rfl (.nil)⟩⟩
instance : IsVar Tryd.prog 45 false 1 := ⟨Tryd.isAgg45, Tryd.sizeOf45⟩
instance : IsNew Tryd.prog 45 [vlit (.slice none 0 0)] := ⟨⟨_, Tryd.zeroValue45, fun _ => .cons rfl (.nil)⟩⟩
instance : IsSl Tryd.prog 45 3 1 := ⟨Tryd.underlying45, Tryd.sizeOf3⟩
instance : IsSlM Tryd.prog 45 3 1 8 (.int .i64 0) := ⟨⟨Tryd.t3, Tryd.underlying45, by kernel_rfl, rfl, rfl, rfl, rfl, by decide⟩⟩
instance : IsVar Tryd.prog 46 false 1 := ⟨Tryd.isAgg46, Tryd.sizeOf46⟩
instance : IsNew Tryd.prog 46 [vlit (.nilFunc)] := ⟨⟨_, Tryd.zeroValue46, fun _ => .cons rfl (.nil)⟩⟩
instance : IsVar Tryd.prog 47 true 2 := ⟨Tryd.isAgg47, Tryd.sizeOf47⟩
instance : IsNew Tryd.prog 47 [vlit (.slice none 0 0), vlit (.slice none 0 0)] := ⟨⟨_, Tryd.zeroValue47, fun _ => .cons rfl (.cons rfl (.nil))⟩⟩
instance : IsStruct Tryd.prog 47 [(0, 1), (1, 1)] := ⟨⟨_, Tryd.underlying47, fun w => by simp [Tryd.sizeOf45]⟩⟩
instance : IsFld Tryd.prog 47 0 0 1 := ⟨⟨_, _, Tryd.underlying47, rfl, rfl, Tryd.sizeOf45, by decide⟩⟩
instance : IsFld Tryd.prog 47 1 1 1 := ⟨⟨_, _, Tryd.underlying47, rfl, rfl, Tryd.sizeOf45, by decide⟩⟩
instance : IsVar Tryd.prog 48 true 2 := ⟨Tryd.isAgg48, Tryd.sizeOf48⟩
instance : IsNew Tryd.prog 48 [vlit (.slice none 0 0), vlit (.slice none 0 0)] := ⟨⟨_, Tryd.zeroValue48, fun _ => .cons rfl (.cons rfl (.nil))⟩⟩
instance : IsStruct Tryd.prog 48 [(0, 1), (1, 1)] := ⟨⟨_, Tryd.underlying48, fun w => by simp [Tryd.sizeOf45]⟩⟩
instance : IsFld Tryd.prog 48 0 0 1 := ⟨⟨_, _, Tryd.underlying48, rfl, rfl, Tryd.sizeOf45, by decide⟩⟩
instance : IsFld Tryd.prog 48 1 1 1 := ⟨⟨_, _, Tryd.underlying48, rfl, rfl, Tryd.sizeOf45, by decide⟩⟩
instance : IsVar Tryd.prog 49 false 1 := ⟨Tryd.isAgg49, Tryd.sizeOf49⟩
instance : IsNew Tryd.prog 49 [vlit (.nilFunc)] := ⟨⟨_, Tryd.zeroValue49, fun _ => .cons rfl (.nil)⟩⟩
instance : IsVar Tryd.prog 50 false 1 := ⟨Tryd.isAgg50, Tryd.sizeOf50⟩
instance : IsNew Tryd.prog 50 [vlit (.nilFunc)] := ⟨⟨_, Tryd.zeroValue50, fun _ => .cons rfl (.nil)⟩⟩
instance : IsVar Tryd.prog 51 false 1 := ⟨Tryd.isAgg51, Tryd.sizeOf51⟩
instance : IsNew Tryd.prog 51 [vlit (.nilFunc)] := ⟨⟨_, Tryd.zeroValue51, fun _ => .cons rfl (.nil)⟩⟩
instance : IsVar Tryd.prog 52 false 1 := ⟨Tryd.isAgg52, Tryd.sizeOf52⟩
instance : IsNew Tryd.prog 52 [vlit (.nilFunc)] := ⟨⟨_, Tryd.zeroValue52, fun _ => .cons rfl (.nil)⟩⟩
instance : IsVar Tryd.prog 53 false 1 := ⟨Tryd.isAgg53, Tryd.sizeOf53⟩
instance : IsNew Tryd.prog 53 [vlit (.nilFunc)] := ⟨⟨_, Tryd.zeroValue53, fun _ => .cons rfl (.nil)⟩⟩
instance : IsVar Tryd.prog 54 false 1 := ⟨Tryd.isAgg54, Tryd.sizeOf54⟩
instance : IsNew Tryd.prog 54 [vlit (.nilFunc)] := ⟨⟨_, Tryd.zeroValue54, fun _ => .cons rfl (.nil)⟩⟩
instance : IsVar Tryd.prog 55 false 1 := ⟨Tryd.isAgg55, Tryd.sizeOf55⟩
instance : IsNew Tryd.prog 55 [vlit (.pointer none)] := ⟨⟨_, Tryd.zeroValue55, fun _ => .cons rfl (.nil)⟩⟩
instance : IsVar Tryd.prog 56 false 1 := ⟨Tryd.isAgg56, Tryd.sizeOf56⟩
instance : IsNew Tryd.prog 56 [vlit (.slice none 0 0)] := ⟨⟨_, Tryd.zeroValue56, fun _ => .cons rfl (.nil)⟩⟩
instance : IsSl Tryd.prog 56 5 1 := ⟨Tryd.underlying56, Tryd.sizeOf5⟩
instance : IsSlM Tryd.prog 56 5 1 1 (.int .u8 0) := ⟨⟨Tryd.t5, Tryd.underlying56, by kernel_rfl, rfl, rfl, rfl, rfl, by decide⟩⟩
instance : IsVar Tryd.prog 57 true 2 := ⟨Tryd.isAgg57, Tryd.sizeOf57⟩
instance : IsNew Tryd.prog 57 [vlit (.pointer none), vlit (.slice none 0 0)] := ⟨⟨_, Tryd.zeroValue57, fun _ => .cons rfl (.cons rfl (.nil))⟩⟩
instance : IsStruct Tryd.prog 57 [(0, 1), (1, 1)] := ⟨⟨_, Tryd.underlying57, fun w => by simp [Tryd.sizeOf55, Tryd.sizeOf56]⟩⟩
instance : IsFld Tryd.prog 57 0 0 1 := ⟨⟨_, _, Tryd.underlying57, rfl, rfl, Tryd.sizeOf55, by decide⟩⟩
instance : IsFld Tryd.prog 57 1 1 1 := ⟨⟨_, _, Tryd.underlying57, rfl, rfl, Tryd.sizeOf56, by decide⟩⟩
instance : IsVar Tryd.prog 58 true 2 := ⟨Tryd.isAgg58, Tryd.sizeOf58⟩
instance : IsNew Tryd.prog 58 [vlit (.pointer none), vlit (.slice none 0 0)] := ⟨⟨_, Tryd.zeroValue58, fun _ => .cons rfl (.cons rfl (.nil))⟩⟩
instance : IsStruct Tryd.prog 58 [(0, 1), (1, 1)] := ⟨⟨_, Tryd.underlying58, fun w => by simp [Tryd.sizeOf55, Tryd.sizeOf56]⟩⟩
instance : IsFld Tryd.prog 58 0 0 1 := ⟨⟨_, _, Tryd.underlying58, rfl, rfl, Tryd.sizeOf55, by decide⟩⟩
instance : IsFld Tryd.prog 58 1 1 1 := ⟨⟨_, _, Tryd.underlying58, rfl, rfl, Tryd.sizeOf56, by decide⟩⟩
instance : IsVar Tryd.prog 59 false 1 := ⟨Tryd.isAgg59, Tryd.sizeOf59⟩
instance : IsNew Tryd.prog 59 [vlit (.nilFunc)] := ⟨⟨_, Tryd.zeroValue59, fun _ => .cons rfl (.nil)⟩⟩
instance : IsVar Tryd.prog 63 false 1 := ⟨Tryd.isAgg63, Tryd.sizeOf63⟩
instance : IsNew Tryd.prog 63 [vlit (.nilFunc)] := ⟨⟨_, Tryd.zeroValue63, fun _ => .cons rfl (.nil)⟩⟩
instance : IsVar Tryd.prog 64 false 1 := ⟨Tryd.isAgg64, Tryd.sizeOf64⟩
instance : IsNew Tryd.prog 64 [vlit (.nilFunc)] := ⟨⟨_, Tryd.zeroValue64, fun _ => .cons rfl (.nil)⟩⟩
instance : IsVar Tryd.prog 65 false 1 := ⟨Tryd.isAgg65, Tryd.sizeOf65⟩
instance : IsNew Tryd.prog 65 [vlit (.nilFunc)] := ⟨⟨_, Tryd.zeroValue65, fun _ => .cons rfl (.nil)⟩⟩
instance : IsVar Tryd.prog 66 false 1 := ⟨Tryd.isAgg66, Tryd.sizeOf66⟩
instance : IsNew Tryd.prog 66 [vlit (.nilFunc)] := ⟨⟨_, Tryd.zeroValue66, fun _ => .cons rfl (.nil)⟩⟩
instance : IsVar Tryd.prog 67 false 1 := ⟨Tryd.isAgg67, Tryd.sizeOf67⟩
instance : IsNew Tryd.prog 67 [vlit (.nilFunc)] := ⟨⟨_, Tryd.zeroValue67, fun _ => .cons rfl (.nil)⟩⟩
instance : IsVar Tryd.prog 68 false 1 := ⟨Tryd.isAgg68, Tryd.sizeOf68⟩
instance : IsNew Tryd.prog 68 [vlit (.nilFunc)] := ⟨⟨_, Tryd.zeroValue68, fun _ => .cons rfl (.nil)⟩⟩
instance : IsVar Tryd.prog 69 true 2 := ⟨Tryd.isAgg69, Tryd.sizeOf69⟩
instance : IsNew Tryd.prog 69 [vlit (.slice none 0 0), vlit (.slice none 0 0)] := ⟨⟨_, Tryd.zeroValue69, fun _ => .cons rfl (.cons rfl (.nil))⟩⟩
instance : IsStruct Tryd.prog 69 [(0, 1), (1, 1)] := ⟨⟨_, Tryd.underlying69, fun w => by simp [Tryd.sizeOf45]⟩⟩
instance : IsFld Tryd.prog 69 0 0 1 := ⟨⟨_, _, Tryd.underlying69, rfl, rfl, Tryd.sizeOf45, by decide⟩⟩
instance : IsFld Tryd.prog 69 1 1 1 := ⟨⟨_, _, Tryd.underlying69, rfl, rfl, Tryd.sizeOf45, by decide⟩⟩
instance : IsVar Tryd.prog 70 false 1 := ⟨Tryd.isAgg70, Tryd.sizeOf70⟩
instance : IsNew Tryd.prog 70 [vlit (.nilFunc)] := ⟨⟨_, Tryd.zeroValue70, fun _ => .cons rfl (.nil)⟩⟩
instance : IsVar Tryd.prog 71 false 1 := ⟨Tryd.isAgg71, Tryd.sizeOf71⟩
instance : IsNew Tryd.prog 71 [vlit (.nilFunc)] := ⟨⟨_, Tryd.zeroValue71, fun _ => .cons rfl (.nil)⟩⟩
instance : IsVar Tryd.prog 72 false 1 := ⟨Tryd.isAgg72, Tryd.sizeOf72⟩
instance : IsNew Tryd.prog 72 [vlit (.nilFunc)] := ⟨⟨_, Tryd.zeroValue72, fun _ => .cons rfl (.nil)⟩⟩
instance : IsVar Tryd.prog 73 false 1 := ⟨Tryd.isAgg73, Tryd.sizeOf73⟩
instance : IsNew Tryd.prog 73 [vlit (.nilFunc)] := ⟨⟨_, Tryd.zeroValue73, fun _ => .cons rfl (.nil)⟩⟩
instance : IsVar Tryd.prog 74 false 1 := ⟨Tryd.isAgg74, Tryd.sizeOf74⟩
instance : IsNew Tryd.prog 74 [vlit (.nilFunc)] := ⟨⟨_, Tryd.zeroValue74, fun _ => .cons rfl (.nil)⟩⟩
instance : IsVar Tryd.prog 75 false 1 := ⟨Tryd.isAgg75, Tryd.sizeOf75⟩
instance : IsNew Tryd.prog 75 [vlit (.pointer none)] := ⟨⟨_, Tryd.zeroValue75, fun _ => .cons rfl (.nil)⟩⟩
instance : IsVar Tryd.prog 76 false 1 := ⟨Tryd.isAgg76, Tryd.sizeOf76⟩
instance : IsNew Tryd.prog 76 [vlit (.nilFunc)] := ⟨⟨_, Tryd.zeroValue76, fun _ => .cons rfl (.nil)⟩⟩
instance : IsVar Tryd.prog 77 false 1 := ⟨Tryd.isAgg77, Tryd.sizeOf77⟩
instance : IsNew Tryd.prog 77 [vlit (.nilFunc)] := ⟨⟨_, Tryd.zeroValue77, fun _ => .cons rfl (.nil)⟩⟩
instance : IsVar Tryd.prog 78 false 1 := ⟨Tryd.isAgg78, Tryd.sizeOf78⟩
instance : IsNew Tryd.prog 78 [vlit (.nilFunc)] := ⟨⟨_, Tryd.zeroValue78, fun _ => .cons rfl (.nil)⟩⟩
instance : IsVar Tryd.prog 79 false 1 := ⟨Tryd.isAgg79, Tryd.sizeOf79⟩
instance : IsNew Tryd.prog 79 [vlit (.nilFunc)] := ⟨⟨_, Tryd.zeroValue79, fun _ => .cons rfl (.nil)⟩⟩
instance : IsVar Tryd.prog 80 false 1 := ⟨Tryd.isAgg80, Tryd.sizeOf80⟩
instance : IsNew Tryd.prog 80 [vlit (.nilFunc)] := ⟨⟨_, Tryd.zeroValue80, fun _ => .cons rfl (.nil)⟩⟩
instance : IsVar Tryd.prog 81 false 1 := ⟨Tryd.isAgg81, Tryd.sizeOf81⟩
instance : IsNew Tryd.prog 81 [vlit (.nilFunc)] := ⟨⟨_, Tryd.zeroValue81, fun _ => .cons rfl (.nil)⟩⟩
instance : IsVar Tryd.prog 83 false 1 := ⟨Tryd.isAgg83, Tryd.sizeOf83⟩
instance : IsNew Tryd.prog 83 [vlit (.nilFunc)] := ⟨⟨_, Tryd.zeroValue83, fun _ => .cons rfl (.nil)⟩⟩
instance : IsVar Tryd.prog 84 false 1 := ⟨Tryd.isAgg84, Tryd.sizeOf84⟩
instance : IsNew Tryd.prog 84 [vlit (.nilFunc)] := ⟨⟨_, Tryd.zeroValue84, fun _ => .cons rfl (.nil)⟩⟩
instance : IsVar Tryd.prog 86 false 1 := ⟨Tryd.isAgg86, Tryd.sizeOf86⟩
instance : IsNew Tryd.prog 86 [vlit (.nilFunc)] := ⟨⟨_, Tryd.zeroValue86, fun _ => .cons rfl (.nil)⟩⟩
instance : IsVar Tryd.prog 87 false 1 := ⟨Tryd.isAgg87, Tryd.sizeOf87⟩
instance : IsNew Tryd.prog 87 [vlit (.nilFunc)] := ⟨⟨_, Tryd.zeroValue87, fun _ => .cons rfl (.nil)⟩⟩
instance : IsVar Tryd.prog 88 false 1 := ⟨Tryd.isAgg88, Tryd.sizeOf88⟩
instance : IsNew Tryd.prog 88 [vlit (.nilFunc)] := ⟨⟨_, Tryd.zeroValue88, fun _ => .cons rfl (.nil)⟩⟩
instance : IsVar Tryd.prog 89 false 1 := ⟨Tryd.isAgg89, Tryd.sizeOf89⟩
instance : IsNew Tryd.prog 89 [vlit (.int .u64 0)] := ⟨⟨_, Tryd.zeroValue89, fun _ => .cons rfl (.nil)⟩⟩
instance : IsU64 Tryd.prog 89 := ⟨Tryd.underlying89⟩
instance : IsVar Tryd.prog 90 false 1 := ⟨Tryd.isAgg90, Tryd.sizeOf90⟩
instance : IsNew Tryd.prog 90 [vlit (.nilFunc)] := ⟨⟨_, Tryd.zeroValue90, fun _ => .cons rfl (.nil)⟩⟩
instance : IsVar Tryd.prog 91 false 1 := ⟨Tryd.isAgg91, Tryd.sizeOf91⟩
instance : IsNew Tryd.prog 91 [vlit (.int .u32 0)] := ⟨⟨_, Tryd.zeroValue91, fun _ => .cons rfl (.nil)⟩⟩
instance : IsVar Tryd.prog 93 false 1 := ⟨Tryd.isAgg93, Tryd.sizeOf93⟩
instance : IsNew Tryd.prog 93 [vlit (.nilFunc)] := ⟨⟨_, Tryd.zeroValue93, fun _ => .cons rfl (.nil)⟩⟩
instance : IsVar Tryd.prog 94 true 24 := ⟨Tryd.isAgg94, Tryd.sizeOf94⟩
instance : IsVar Tryd.prog 95 false 1 := ⟨Tryd.isAgg95, Tryd.sizeOf95⟩
instance : IsNew Tryd.prog 95 [vlit (.int .u64 0)] := ⟨⟨_, Tryd.zeroValue95, fun _ => .cons rfl (.nil)⟩⟩
instance : IsU64 Tryd.prog 95 := ⟨Tryd.underlying95⟩
instance : IsVar Tryd.prog 96 false 1 := ⟨Tryd.isAgg96, Tryd.sizeOf96⟩
instance : IsNew Tryd.prog 96 [vlit (.nilFunc)] := ⟨⟨_, Tryd.zeroValue96, fun _ => .cons rfl (.nil)⟩⟩
instance : IsVar Tryd.prog 97 false 1 := ⟨Tryd.isAgg97, Tryd.sizeOf97⟩
instance : IsNew Tryd.prog 97 [vlit (.nilFunc)] := ⟨⟨_, Tryd.zeroValue97, fun _ => .cons rfl (.nil)⟩⟩
instance : IsVar Tryd.prog 99 false 1 := ⟨Tryd.isAgg99, Tryd.sizeOf99⟩
instance : IsNew Tryd.prog 99 [vlit (.nilFunc)] := ⟨⟨_, Tryd.zeroValue99, fun _ => .cons rfl (.nil)⟩⟩
instance : IsVar Tryd.prog 100 true 256 := ⟨Tryd.isAgg100, Tryd.sizeOf100⟩
instance : IsVar Tryd.prog 101 true 2 := ⟨Tryd.isAgg101, Tryd.sizeOf101⟩
instance : IsNew Tryd.prog 101 [vlit (.int .u8 0), vlit (.int .u8 0)] := ⟨⟨_, Tryd.zeroValue101, fun _ => .cons rfl (.cons rfl (.nil))⟩⟩
instance : IsStruct Tryd.prog 101 [(0, 1), (1, 1)] := ⟨⟨_, Tryd.underlying101, fun w => by simp [Tryd.sizeOf5]⟩⟩
instance : IsFld Tryd.prog 101 0 0 1 := ⟨⟨_, _, Tryd.underlying101, rfl, rfl, Tryd.sizeOf5, by decide⟩⟩
instance : IsFld Tryd.prog 101 1 1 1 := ⟨⟨_, _, Tryd.underlying101, rfl, rfl, Tryd.sizeOf5, by decide⟩⟩
instance : IsVar Tryd.prog 102 true 2 := ⟨Tryd.isAgg102, Tryd.sizeOf102⟩
instance : IsNew Tryd.prog 102 [vlit (.int .u8 0), vlit (.int .u8 0)] := ⟨⟨_, Tryd.zeroValue102, fun _ => .cons rfl (.cons rfl (.nil))⟩⟩
instance : IsStruct Tryd.prog 102 [(0, 1), (1, 1)] := ⟨⟨_, Tryd.underlying102, fun w => by simp [Tryd.sizeOf5]⟩⟩
instance : IsFld Tryd.prog 102 0 0 1 := ⟨⟨_, _, Tryd.underlying102, rfl, rfl, Tryd.sizeOf5, by decide⟩⟩
instance : IsFld Tryd.prog 102 1 1 1 := ⟨⟨_, _, Tryd.underlying102, rfl, rfl, Tryd.sizeOf5, by decide⟩⟩
instance : IsVar Tryd.prog 103 true 32 := ⟨Tryd.isAgg103, Tryd.sizeOf103⟩
instance : IsVar Tryd.prog 104 false 1 := ⟨Tryd.isAgg104, Tryd.sizeOf104⟩
instance : IsNew Tryd.prog 104 [vlit (.nilFunc)] := ⟨⟨_, Tryd.zeroValue104, fun _ => .cons rfl (.nil)⟩⟩
instance : IsVar Tryd.prog 105 true 20 := ⟨Tryd.isAgg105, Tryd.sizeOf105⟩
instance : IsVar Tryd.prog 106 true 65 := ⟨Tryd.isAgg106, Tryd.sizeOf106⟩
instance : IsVar Tryd.prog 107 false 1 := ⟨Tryd.isAgg107, Tryd.sizeOf107⟩
instance : IsNew Tryd.prog 107 [vlit (.nilFunc)] := ⟨⟨_, Tryd.zeroValue107, fun _ => .cons rfl (.nil)⟩⟩
instance : IsVar Tryd.prog 108 false 1 := ⟨Tryd.isAgg108, Tryd.sizeOf108⟩
instance : IsNew Tryd.prog 108 [vlit (.nilFunc)] := ⟨⟨_, Tryd.zeroValue108, fun _ => .cons rfl (.nil)⟩⟩
instance : IsVar Tryd.prog 109 false 1 := ⟨Tryd.isAgg109, Tryd.sizeOf109⟩
instance : IsNew Tryd.prog 109 [vlit (.nilFunc)] := ⟨⟨_, Tryd.zeroValue109, fun _ => .cons rfl (.nil)⟩⟩
instance : IsVar Tryd.prog 110 true 32 := ⟨Tryd.isAgg110, Tryd.sizeOf110⟩
instance : IsVar Tryd.prog 111 true 64 := ⟨Tryd.isAgg111, Tryd.sizeOf111⟩
instance : IsVar Tryd.prog 112 true 4 := ⟨Tryd.isAgg112, Tryd.sizeOf112⟩
instance : IsNew Tryd.prog 112 [vlit (.pointer none), vlit (.pointer none), vlit (.pointer none), vlit (.string .empty)] := ⟨⟨_, Tryd.zeroValue112, fun _ => .cons rfl (.cons rfl (.cons rfl (.cons rfl (.nil))))⟩⟩
instance : IsStruct Tryd.prog 112 [(0, 1), (1, 1), (2, 1), (3, 1)] := ⟨⟨_, Tryd.underlying112, fun w => by simp [Tryd.sizeOf9, Tryd.sizeOf17]⟩⟩
instance : IsFld Tryd.prog 112 0 0 1 := ⟨⟨_, _, Tryd.underlying112, rfl, rfl, Tryd.sizeOf17, by decide⟩⟩
instance : IsFld Tryd.prog 112 1 1 1 := ⟨⟨_, _, Tryd.underlying112, rfl, rfl, Tryd.sizeOf17, by decide⟩⟩
instance : IsFld Tryd.prog 112 2 2 1 := ⟨⟨_, _, Tryd.underlying112, rfl, rfl, Tryd.sizeOf17, by decide⟩⟩
instance : IsFld Tryd.prog 112 3 3 1 := ⟨⟨_, _, Tryd.underlying112, rfl, rfl, Tryd.sizeOf9, by decide⟩⟩
instance : IsVar Tryd.prog 113 true 4 := ⟨Tryd.isAgg113, Tryd.sizeOf113⟩
instance : IsNew Tryd.prog 113 [vlit (.pointer none), vlit (.pointer none), vlit (.pointer none), vlit (.string .empty)] := ⟨⟨_, Tryd.zeroValue113, fun _ => .cons rfl (.cons rfl (.cons rfl (.cons rfl (.nil))))⟩⟩
instance : IsStruct Tryd.prog 113 [(0, 1), (1, 1), (2, 1), (3, 1)] := ⟨⟨_, Tryd.underlying113, fun w => by simp [Tryd.sizeOf9, Tryd.sizeOf17]⟩⟩
instance : IsFld Tryd.prog 113 0 0 1 := ⟨⟨_, _, Tryd.underlying113, rfl, rfl, Tryd.sizeOf17, by decide⟩⟩
instance : IsFld Tryd.prog 113 1 1 1 := ⟨⟨_, _, Tryd.underlying113, rfl, rfl, Tryd.sizeOf17, by decide⟩⟩
instance : IsFld Tryd.prog 113 2 2 1 := ⟨⟨_, _, Tryd.underlying113, rfl, rfl, Tryd.sizeOf17, by decide⟩⟩
instance : IsFld Tryd.prog 113 3 3 1 := ⟨⟨_, _, Tryd.underlying113, rfl, rfl, Tryd.sizeOf9, by decide⟩⟩
instance : IsVar Tryd.prog 114 true 0 := ⟨Tryd.isAgg114, Tryd.sizeOf114⟩
instance : IsNew Tryd.prog 114 [] := ⟨⟨_, Tryd.zeroValue114, fun _ => .nil⟩⟩
instance : IsVar Tryd.prog 115 true 0 := ⟨Tryd.isAgg115, Tryd.sizeOf115⟩
instance : IsNew Tryd.prog 115 [] := ⟨⟨_, Tryd.zeroValue115, fun _ => .nil⟩⟩
instance : IsVar Tryd.prog 116 true 0 := ⟨Tryd.isAgg116, Tryd.sizeOf116⟩
instance : IsNew Tryd.prog 116 [] := ⟨⟨_, Tryd.zeroValue116, fun _ => .nil⟩⟩
instance : IsVar Tryd.prog 117 false 1 := ⟨Tryd.isAgg117, Tryd.sizeOf117⟩
instance : IsNew Tryd.prog 117 [vlit (.nilFunc)] := ⟨⟨_, Tryd.zeroValue117, fun _ => .cons rfl (.nil)⟩⟩
instance : IsVar Tryd.prog 118 false 1 := ⟨Tryd.isAgg118, Tryd.sizeOf118⟩
instance : IsNew Tryd.prog 118 [vlit (.int .u8 0)] := ⟨⟨_, Tryd.zeroValue118, fun _ => .cons rfl (.nil)⟩⟩
instance : IsU8 Tryd.prog 118 := ⟨Tryd.underlying118⟩
instance : IsVar Tryd.prog 119 false 1 := ⟨Tryd.isAgg119, Tryd.sizeOf119⟩
instance : IsNew Tryd.prog 119 [vlit (.int .u8 0)] := ⟨⟨_, Tryd.zeroValue119, fun _ => .cons rfl (.nil)⟩⟩
instance : IsU8 Tryd.prog 119 := ⟨Tryd.underlying119⟩
instance : IsVar Tryd.prog 120 false 1 := ⟨Tryd.isAgg120, Tryd.sizeOf120⟩
instance : IsNew Tryd.prog 120 [vlit (.nilFunc)] := ⟨⟨_, Tryd.zeroValue120, fun _ => .cons rfl (.nil)⟩⟩
instance : IsVar Tryd.prog 121 false 1 := ⟨Tryd.isAgg121, Tryd.sizeOf121⟩
instance : IsNew Tryd.prog 121 [vlit (.int .i32 0)] := ⟨⟨_, Tryd.zeroValue121, fun _ => .cons rfl (.nil)⟩⟩
instance : IsVar Tryd.prog 122 false 1 := ⟨Tryd.isAgg122, Tryd.sizeOf122⟩
instance : IsNew Tryd.prog 122 [vlit (.int .i32 0)] := ⟨⟨_, Tryd.zeroValue122, fun _ => .cons rfl (.nil)⟩⟩
instance : IsVar Tryd.prog 123 true 11 := ⟨Tryd.isAgg123, Tryd.sizeOf123⟩
instance : IsNew Tryd.prog 123 [vlit (.int .u64 0), vlit (.int .u64 0), vlit (.int .u32 0), vlit (.int .u8 0), vlit (.int .u8 0), vlit (.int .u8 0), vlit (.int .u8 0), vlit (.nilFunc), vlit (.pointer none), vlit (.int .i32 0), vlit (.int .i32 0)] := ⟨⟨_, Tryd.zeroValue123, fun _ => .cons rfl (.cons rfl (.cons rfl (.cons rfl (.cons rfl (.cons rfl (.cons rfl (.cons rfl (.cons rfl (.cons rfl (.cons rfl (.nil)))))))))))⟩⟩
instance : IsStruct Tryd.prog 123 [(0, 1), (1, 1), (2, 1), (3, 1), (4, 1), (5, 1), (6, 1), (7, 1), (8, 1), (9, 1), (10, 1)] := ⟨⟨_, Tryd.underlying123, fun w => by simp [Tryd.sizeOf5, Tryd.sizeOf12, Tryd.sizeOf75, Tryd.sizeOf91, Tryd.sizeOf118, Tryd.sizeOf119, Tryd.sizeOf120, Tryd.sizeOf121, Tryd.sizeOf122]⟩⟩
instance : IsFld Tryd.prog 123 0 0 1 := ⟨⟨_, _, Tryd.underlying123, rfl, rfl, Tryd.sizeOf12, by decide⟩⟩
instance : IsFld Tryd.prog 123 1 1 1 := ⟨⟨_, _, Tryd.underlying123, rfl, rfl, Tryd.sizeOf12, by decide⟩⟩
instance : IsFld Tryd.prog 123 2 2 1 := ⟨⟨_, _, Tryd.underlying123, rfl, rfl, Tryd.sizeOf91, by decide⟩⟩
instance : IsFld Tryd.prog 123 3 3 1 := ⟨⟨_, _, Tryd.underlying123, rfl, rfl, Tryd.sizeOf118, by decide⟩⟩
instance : IsFld Tryd.prog 123 4 4 1 := ⟨⟨_, _, Tryd.underlying123, rfl, rfl, Tryd.sizeOf5, by decide⟩⟩
instance : IsFld Tryd.prog 123 5 5 1 := ⟨⟨_, _, Tryd.underlying123, rfl, rfl, Tryd.sizeOf5, by decide⟩⟩
instance : IsFld Tryd.prog 123 6 6 1 := ⟨⟨_, _, Tryd.underlying123, rfl, rfl, Tryd.sizeOf119, by decide⟩⟩
instance : IsFld Tryd.prog 123 7 7 1 := ⟨⟨_, _, Tryd.underlying123, rfl, rfl, Tryd.sizeOf120, by decide⟩⟩
instance : IsFld Tryd.prog 123 8 8 1 := ⟨⟨_, _, Tryd.underlying123, rfl, rfl, Tryd.sizeOf75, by decide⟩⟩
instance : IsFld Tryd.prog 123 9 9 1 := ⟨⟨_, _, Tryd.underlying123, rfl, rfl, Tryd.sizeOf121, by decide⟩⟩
instance : IsFld Tryd.prog 123 10 10 1 := ⟨⟨_, _, Tryd.underlying123, rfl, rfl, Tryd.sizeOf122, by decide⟩⟩
instance : IsVar Tryd.prog 124 true 11 := ⟨Tryd.isAgg124, Tryd.sizeOf124⟩
instance : IsNew Tryd.prog 124 [vlit (.int .u64 0), vlit (.int .u64 0), vlit (.int .u32 0), vlit (.int .u8 0), vlit (.int .u8 0), vlit (.int .u8 0), vlit (.int .u8 0), vlit (.nilFunc), vlit (.pointer none), vlit (.int .i32 0), vlit (.int .i32 0)] := ⟨⟨_, Tryd.zeroValue124, fun _ => .cons rfl (.cons rfl (.cons rfl (.cons rfl (.cons rfl (.cons rfl (.cons rfl (.cons rfl (.cons rfl (.cons rfl (.cons rfl (.nil)))))))))))⟩⟩
instance : IsStruct Tryd.prog 124 [(0, 1), (1, 1), (2, 1), (3, 1), (4, 1), (5, 1), (6, 1), (7, 1), (8, 1), (9, 1), (10, 1)] := ⟨⟨_, Tryd.underlying124, fun w => by simp [Tryd.sizeOf5, Tryd.sizeOf12, Tryd.sizeOf75, Tryd.sizeOf91, Tryd.sizeOf118, Tryd.sizeOf119, Tryd.sizeOf120, Tryd.sizeOf121, Tryd.sizeOf122]⟩⟩
instance : IsFld Tryd.prog 124 0 0 1 := ⟨⟨_, _, Tryd.underlying124, rfl, rfl, Tryd.sizeOf12, by decide⟩⟩
instance : IsFld Tryd.prog 124 1 1 1 := ⟨⟨_, _, Tryd.underlying124, rfl, rfl, Tryd.sizeOf12, by decide⟩⟩
instance : IsFld Tryd.prog 124 2 2 1 := ⟨⟨_, _, Tryd.underlying124, rfl, rfl, Tryd.sizeOf91, by decide⟩⟩
instance : IsFld Tryd.prog 124 3 3 1 := ⟨⟨_, _, Tryd.underlying124, rfl, rfl, Tryd.sizeOf118, by decide⟩⟩
instance : IsFld Tryd.prog 124 4 4 1 := ⟨⟨_, _, Tryd.underlying124, rfl, rfl, Tryd.sizeOf5, by decide⟩⟩
instance : IsFld Tryd.prog 124 5 5 1 := ⟨⟨_, _, Tryd.underlying124, rfl, rfl, Tryd.sizeOf5, by decide⟩⟩
instance : IsFld Tryd.prog 124 6 6 1 := ⟨⟨_, _, Tryd.underlying124, rfl, rfl, Tryd.sizeOf119, by decide⟩⟩
instance : IsFld Tryd.prog 124 7 7 1 := ⟨⟨_, _, Tryd.underlying124, rfl, rfl, Tryd.sizeOf120, by decide⟩⟩
instance : IsFld Tryd.prog 124 8 8 1 := ⟨⟨_, _, Tryd.underlying124, rfl, rfl, Tryd.sizeOf75, by decide⟩⟩
instance : IsFld Tryd.prog 124 9 9 1 := ⟨⟨_, _, Tryd.underlying124, rfl, rfl, Tryd.sizeOf121, by decide⟩⟩
instance : IsFld Tryd.prog 124 10 10 1 := ⟨⟨_, _, Tryd.underlying124, rfl, rfl, Tryd.sizeOf122, by decide⟩⟩
end Go.Proofs.YtemfpennomelaaaDoor
