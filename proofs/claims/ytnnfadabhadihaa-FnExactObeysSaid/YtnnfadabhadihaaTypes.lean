/- The facts on the types of this translation, as class instances. No conditions. -/
import Derived.Test.YtnnfadabhadihaaProg
import Derived.KernelRfl
import Derived.Test.YtnnfadabhadihaaCoreZ
namespace Go.Proofs.Ytnnfadabhadihaa
open Go Go.Proofs

instance : IsVar Try.prog 2 false 1 := ⟨Try.isAgg2, Try.sizeOf2⟩
instance : IsNew Try.prog 2 [vlit (.int .i64 0)] := ⟨⟨_, Try.zeroValue2, fun _ => .cons rfl (.nil)⟩⟩
instance : IsVar Try.prog 3 false 1 := ⟨Try.isAgg3, Try.sizeOf3⟩
instance : IsNew Try.prog 3 [vlit (.int .i64 0)] := ⟨⟨_, Try.zeroValue3, fun _ => .cons rfl (.nil)⟩⟩
instance : IsVar Try.prog 4 false 1 := ⟨Try.isAgg4, Try.sizeOf4⟩
instance : IsNew Try.prog 4 [vlit (.bool false)] := ⟨⟨_, Try.zeroValue4, fun _ => .cons rfl (.nil)⟩⟩
instance : IsBool Try.prog 4 := ⟨Try.underlying4⟩
instance : IsVar Try.prog 5 false 1 := ⟨Try.isAgg5, Try.sizeOf5⟩
instance : IsNew Try.prog 5 [vlit (.int .u8 0)] := ⟨⟨_, Try.zeroValue5, fun _ => .cons rfl (.nil)⟩⟩
instance : IsVar Try.prog 6 false 1 := ⟨Try.isAgg6, Try.sizeOf6⟩
instance : IsNew Try.prog 6 [vlit (.int .u8 0)] := ⟨⟨_, Try.zeroValue6, fun _ => .cons rfl (.nil)⟩⟩
instance : IsVar Try.prog 7 true 4 := ⟨Try.isAgg7, Try.sizeOf7⟩
instance : IsNew Try.prog 7 [vlit (.int .i64 0), vlit (.int .i64 0), vlit (.bool false), vlit (.int .u8 0)] := ⟨⟨_, Try.zeroValue7, fun _ => .cons rfl (.cons rfl (.cons rfl (.cons rfl (.nil))))⟩⟩
instance : IsStruct Try.prog 7 [(0, 1), (1, 1), (2, 1), (3, 1)] := ⟨⟨_, Try.underlying7, fun w => by simp [Try.sizeOf2, Try.sizeOf3, Try.sizeOf4, Try.sizeOf6]⟩⟩
instance : IsFld Try.prog 7 0 0 1 := ⟨⟨_, _, Try.underlying7, rfl, rfl, Try.sizeOf2, by decide⟩⟩
instance : IsFld Try.prog 7 1 1 1 := ⟨⟨_, _, Try.underlying7, rfl, rfl, Try.sizeOf3, by decide⟩⟩
instance : IsFld Try.prog 7 2 2 1 := ⟨⟨_, _, Try.underlying7, rfl, rfl, Try.sizeOf4, by decide⟩⟩
instance : IsFld Try.prog 7 3 3 1 := ⟨⟨_, _, Try.underlying7, rfl, rfl, Try.sizeOf6, by decide⟩⟩
instance : IsVar Try.prog 8 true 4 := ⟨Try.isAgg8, Try.sizeOf8⟩
instance : IsNew Try.prog 8 [vlit (.int .i64 0), vlit (.int .i64 0), vlit (.bool false), vlit (.int .u8 0)] := ⟨⟨_, Try.zeroValue8, fun _ => .cons rfl (.cons rfl (.cons rfl (.cons rfl (.nil))))⟩⟩
instance : IsStruct Try.prog 8 [(0, 1), (1, 1), (2, 1), (3, 1)] := ⟨⟨_, Try.underlying8, fun w => by simp [Try.sizeOf2, Try.sizeOf3, Try.sizeOf4, Try.sizeOf6]⟩⟩
instance : IsFld Try.prog 8 0 0 1 := ⟨⟨_, _, Try.underlying8, rfl, rfl, Try.sizeOf2, by decide⟩⟩
instance : IsFld Try.prog 8 1 1 1 := ⟨⟨_, _, Try.underlying8, rfl, rfl, Try.sizeOf3, by decide⟩⟩
instance : IsFld Try.prog 8 2 2 1 := ⟨⟨_, _, Try.underlying8, rfl, rfl, Try.sizeOf4, by decide⟩⟩
instance : IsFld Try.prog 8 3 3 1 := ⟨⟨_, _, Try.underlying8, rfl, rfl, Try.sizeOf6, by decide⟩⟩
instance : IsVar Try.prog 9 false 1 := ⟨Try.isAgg9, Try.sizeOf9⟩
instance : IsNew Try.prog 9 [vlit (.string .empty)] := ⟨⟨_, Try.zeroValue9, fun _ => .cons rfl (.nil)⟩⟩
instance : IsStr Try.prog 9 := ⟨Try.underlying9⟩
instance : IsVar Try.prog 10 false 1 := ⟨Try.isAgg10, Try.sizeOf10⟩
instance : IsNew Try.prog 10 [vlit (.string .empty)] := ⟨⟨_, Try.zeroValue10, fun _ => .cons rfl (.nil)⟩⟩
instance : IsStr Try.prog 10 := ⟨Try.underlying10⟩
instance : IsVar Try.prog 11 false 1 := ⟨Try.isAgg11, Try.sizeOf11⟩
instance : IsNew Try.prog 11 [vlit (.string .empty)] := ⟨⟨_, Try.zeroValue11, fun _ => .cons rfl (.nil)⟩⟩
instance : IsStr Try.prog 11 := ⟨Try.underlying11⟩
instance : IsVar Try.prog 12 false 1 := ⟨Try.isAgg12, Try.sizeOf12⟩
instance : IsNew Try.prog 12 [vlit (.int .u64 0)] := ⟨⟨_, Try.zeroValue12, fun _ => .cons rfl (.nil)⟩⟩
instance : IsVar Try.prog 13 true 2 := ⟨Try.isAgg13, Try.sizeOf13⟩
instance : IsNew Try.prog 13 [vlit (.string .empty), vlit (.int .u64 0)] := ⟨⟨_, Try.zeroValue13, fun _ => .cons rfl (.cons rfl (.nil))⟩⟩
instance : IsStruct Try.prog 13 [(0, 1), (1, 1)] := ⟨⟨_, Try.underlying13, fun w => by simp [Try.sizeOf9, Try.sizeOf12]⟩⟩
instance : IsFld Try.prog 13 0 0 1 := ⟨⟨_, _, Try.underlying13, rfl, rfl, Try.sizeOf9, by decide⟩⟩
instance : IsFld Try.prog 13 1 1 1 := ⟨⟨_, _, Try.underlying13, rfl, rfl, Try.sizeOf12, by decide⟩⟩
instance : IsVar Try.prog 14 true 2 := ⟨Try.isAgg14, Try.sizeOf14⟩
instance : IsNew Try.prog 14 [vlit (.string .empty), vlit (.int .u64 0)] := ⟨⟨_, Try.zeroValue14, fun _ => .cons rfl (.cons rfl (.nil))⟩⟩
instance : IsStruct Try.prog 14 [(0, 1), (1, 1)] := ⟨⟨_, Try.underlying14, fun w => by simp [Try.sizeOf9, Try.sizeOf12]⟩⟩
instance : IsFld Try.prog 14 0 0 1 := ⟨⟨_, _, Try.underlying14, rfl, rfl, Try.sizeOf9, by decide⟩⟩
instance : IsFld Try.prog 14 1 1 1 := ⟨⟨_, _, Try.underlying14, rfl, rfl, Try.sizeOf12, by decide⟩⟩
instance : IsVar Try.prog 15 false 1 := ⟨Try.isAgg15, Try.sizeOf15⟩
instance : IsNew Try.prog 15 [vlit (.pointer none)] := ⟨⟨_, Try.zeroValue15, fun _ => .cons rfl (.nil)⟩⟩
instance : IsVar Try.prog 16 false 1 := ⟨Try.isAgg16, Try.sizeOf16⟩
instance : IsNew Try.prog 16 [vlit (.pointer none)] := ⟨⟨_, Try.zeroValue16, fun _ => .cons rfl (.nil)⟩⟩
instance : IsVar Try.prog 17 false 1 := ⟨Try.isAgg17, Try.sizeOf17⟩
instance : IsNew Try.prog 17 [vlit (.pointer none)] := ⟨⟨_, Try.zeroValue17, fun _ => .cons rfl (.nil)⟩⟩
instance : IsVar Try.prog 18 true 1 := ⟨Try.isAgg18, Try.sizeOf18⟩
instance : IsNew Try.prog 18 [vlit (.pointer none)] := ⟨⟨_, Try.zeroValue18, fun _ => .cons rfl (.nil)⟩⟩
instance : IsStruct Try.prog 18 [(0, 1)] := ⟨⟨_, Try.underlying18, fun w => by simp [Try.sizeOf17]⟩⟩
instance : IsFld Try.prog 18 0 0 1 := ⟨⟨_, _, Try.underlying18, rfl, rfl, Try.sizeOf17, by decide⟩⟩
instance : IsVar Try.prog 19 true 1 := ⟨Try.isAgg19, Try.sizeOf19⟩
instance : IsNew Try.prog 19 [vlit (.pointer none)] := ⟨⟨_, Try.zeroValue19, fun _ => .cons rfl (.nil)⟩⟩
instance : IsStruct Try.prog 19 [(0, 1)] := ⟨⟨_, Try.underlying19, fun w => by simp [Try.sizeOf17]⟩⟩
instance : IsFld Try.prog 19 0 0 1 := ⟨⟨_, _, Try.underlying19, rfl, rfl, Try.sizeOf17, by decide⟩⟩
instance : IsVar Try.prog 21 false 1 := ⟨Try.isAgg21, Try.sizeOf21⟩
instance : IsNew Try.prog 21 [vlit (.int .i32 0)] := ⟨⟨_, Try.zeroValue21, fun _ => .cons rfl (.nil)⟩⟩
instance : IsVar Try.prog 22 false 1 := ⟨Try.isAgg22, Try.sizeOf22⟩
instance : IsNew Try.prog 22 [vlit (.slice none 0 0)] := ⟨⟨_, Try.zeroValue22, fun _ => .cons rfl (.nil)⟩⟩
instance : IsSl Try.prog 22 3 1 := ⟨Try.underlying22, Try.sizeOf3⟩
instance : IsSlM Try.prog 22 3 1 8 (.int .i64 0) := ⟨⟨Try.t3, Try.underlying22, by kernel_rfl, rfl, rfl, rfl, rfl, by decide⟩⟩
instance : IsVar Try.prog 23 true 2 := ⟨Try.isAgg23, Try.sizeOf23⟩
instance : IsNew Try.prog 23 [vlit (.int .i64 0), vlit (.slice none 0 0)] := ⟨⟨_, Try.zeroValue23, fun _ => .cons rfl (.cons rfl (.nil))⟩⟩
instance : IsStruct Try.prog 23 [(0, 1), (1, 1)] := ⟨⟨_, Try.underlying23, fun w => by simp [Try.sizeOf3, Try.sizeOf22]⟩⟩
instance : IsFld Try.prog 23 0 0 1 := ⟨⟨_, _, Try.underlying23, rfl, rfl, Try.sizeOf3, by decide⟩⟩
instance : IsFld Try.prog 23 1 1 1 := ⟨⟨_, _, Try.underlying23, rfl, rfl, Try.sizeOf22, by decide⟩⟩
instance : IsVar Try.prog 24 true 2 := ⟨Try.isAgg24, Try.sizeOf24⟩
instance : IsNew Try.prog 24 [vlit (.int .i64 0), vlit (.slice none 0 0)] := ⟨⟨_, Try.zeroValue24, fun _ => .cons rfl (.cons rfl (.nil))⟩⟩
instance : IsStruct Try.prog 24 [(0, 1), (1, 1)] := ⟨⟨_, Try.underlying24, fun w => by simp [Try.sizeOf3, Try.sizeOf22]⟩⟩
instance : IsFld Try.prog 24 0 0 1 := ⟨⟨_, _, Try.underlying24, rfl, rfl, Try.sizeOf3, by decide⟩⟩
instance : IsFld Try.prog 24 1 1 1 := ⟨⟨_, _, Try.underlying24, rfl, rfl, Try.sizeOf22, by decide⟩⟩
instance : IsVar Try.prog 25 false 1 := ⟨Try.isAgg25, Try.sizeOf25⟩
instance : IsNew Try.prog 25 [vlit (.slice none 0 0)] := ⟨⟨_, Try.zeroValue25, fun _ => .cons rfl (.nil)⟩⟩
instance : IsSl Try.prog 25 55 2 := ⟨Try.underlying25, Try.sizeOf55⟩
instance : IsSlM Try.prog 25 55 2 48 (.agg #[.slice none 0 0, .slice none 0 0]) := ⟨⟨Try.t55, Try.underlying25, by kernel_rfl, rfl, rfl, rfl, rfl, by decide⟩⟩
instance : IsVar Try.prog 26 true 2 := ⟨Try.isAgg26, Try.sizeOf26⟩
instance : IsNew Try.prog 26 [vlit (.int .i64 0), vlit (.slice none 0 0)] := ⟨⟨_, Try.zeroValue26, fun _ => .cons rfl (.cons rfl (.nil))⟩⟩
instance : IsStruct Try.prog 26 [(0, 1), (1, 1)] := ⟨⟨_, Try.underlying26, fun w => by simp [Try.sizeOf3, Try.sizeOf25]⟩⟩
instance : IsFld Try.prog 26 0 0 1 := ⟨⟨_, _, Try.underlying26, rfl, rfl, Try.sizeOf3, by decide⟩⟩
instance : IsFld Try.prog 26 1 1 1 := ⟨⟨_, _, Try.underlying26, rfl, rfl, Try.sizeOf25, by decide⟩⟩
instance : IsVar Try.prog 27 true 2 := ⟨Try.isAgg27, Try.sizeOf27⟩
instance : IsNew Try.prog 27 [vlit (.int .i64 0), vlit (.slice none 0 0)] := ⟨⟨_, Try.zeroValue27, fun _ => .cons rfl (.cons rfl (.nil))⟩⟩
instance : IsStruct Try.prog 27 [(0, 1), (1, 1)] := ⟨⟨_, Try.underlying27, fun w => by simp [Try.sizeOf3, Try.sizeOf25]⟩⟩
instance : IsFld Try.prog 27 0 0 1 := ⟨⟨_, _, Try.underlying27, rfl, rfl, Try.sizeOf3, by decide⟩⟩
instance : IsFld Try.prog 27 1 1 1 := ⟨⟨_, _, Try.underlying27, rfl, rfl, Try.sizeOf25, by decide⟩⟩
instance : IsVar Try.prog 32 true 2 := ⟨Try.isAgg32, Try.sizeOf32⟩
instance : IsNew Try.prog 32 [vlit (.int .i64 0), vlit (.slice none 0 0)] := ⟨⟨_, Try.zeroValue32, fun _ => .cons rfl (.cons rfl (.nil))⟩⟩
instance : IsStruct Try.prog 32 [(0, 1), (1, 1)] := ⟨⟨_, Try.underlying32, fun w => by simp [Try.sizeOf3, Try.sizeOf22]⟩⟩
instance : IsFld Try.prog 32 0 0 1 := ⟨⟨_, _, Try.underlying32, rfl, rfl, Try.sizeOf3, by decide⟩⟩
instance : IsFld Try.prog 32 1 1 1 := ⟨⟨_, _, Try.underlying32, rfl, rfl, Try.sizeOf22, by decide⟩⟩
instance : IsVar Try.prog 34 false 1 := ⟨Try.isAgg34, Try.sizeOf34⟩
instance : IsNew Try.prog 34 [vlit (.slice none 0 0)] := ⟨⟨_, Try.zeroValue34, fun _ => .cons rfl (.nil)⟩⟩
instance : IsSl Try.prog 34 60 2 := ⟨Try.underlying34, Try.sizeOf60⟩
instance : IsSlM Try.prog 34 60 2 48 (.agg #[.slice none 0 0, .slice none 0 0]) := ⟨⟨Try.t60, Try.underlying34, by kernel_rfl, rfl, rfl, rfl, rfl, by decide⟩⟩
instance : IsVar Try.prog 35 true 2 := ⟨Try.isAgg35, Try.sizeOf35⟩
instance : IsNew Try.prog 35 [vlit (.int .i64 0), vlit (.slice none 0 0)] := ⟨⟨_, Try.zeroValue35, fun _ => .cons rfl (.cons rfl (.nil))⟩⟩
instance : IsStruct Try.prog 35 [(0, 1), (1, 1)] := ⟨⟨_, Try.underlying35, fun w => by simp [Try.sizeOf3, Try.sizeOf34]⟩⟩
instance : IsFld Try.prog 35 0 0 1 := ⟨⟨_, _, Try.underlying35, rfl, rfl, Try.sizeOf3, by decide⟩⟩
instance : IsFld Try.prog 35 1 1 1 := ⟨⟨_, _, Try.underlying35, rfl, rfl, Try.sizeOf34, by decide⟩⟩
instance : IsVar Try.prog 36 true 2 := ⟨Try.isAgg36, Try.sizeOf36⟩
instance : IsNew Try.prog 36 [vlit (.int .i64 0), vlit (.slice none 0 0)] := ⟨⟨_, Try.zeroValue36, fun _ => .cons rfl (.cons rfl (.nil))⟩⟩
instance : IsStruct Try.prog 36 [(0, 1), (1, 1)] := ⟨⟨_, Try.underlying36, fun w => by simp [Try.sizeOf3, Try.sizeOf34]⟩⟩
instance : IsFld Try.prog 36 0 0 1 := ⟨⟨_, _, Try.underlying36, rfl, rfl, Try.sizeOf3, by decide⟩⟩
instance : IsFld Try.prog 36 1 1 1 := ⟨⟨_, _, Try.underlying36, rfl, rfl, Try.sizeOf34, by decide⟩⟩
instance : IsVar Try.prog 44 false 1 := ⟨Try.isAgg44, Try.sizeOf44⟩
instance : IsNew Try.prog 44 [vlit (.slice none 0 0)] := ⟨⟨_, Try.zeroValue44, fun _ => .cons rfl (.nil)⟩⟩
instance : IsSl Try.prog 44 22 1 := ⟨Try.underlying44, Try.sizeOf22⟩
instance : IsSlM Try.prog 44 22 1 24 (.slice none 0 0) := ⟨⟨Try.t22, Try.underlying44, by kernel_rfl, rfl, rfl, rfl, rfl, by decide⟩⟩
instance : IsVar Try.prog 54 true 2 := ⟨Try.isAgg54, Try.sizeOf54⟩
instance : IsNew Try.prog 54 [vlit (.slice none 0 0), vlit (.slice none 0 0)] := ⟨⟨_, Try.zeroValue54, fun _ => .cons rfl (.cons rfl (.nil))⟩⟩
instance : IsStruct Try.prog 54 [(0, 1), (1, 1)] := ⟨⟨_, Try.underlying54, fun w => by simp [Try.sizeOf22]⟩⟩
instance : IsFld Try.prog 54 0 0 1 := ⟨⟨_, _, Try.underlying54, rfl, rfl, Try.sizeOf22, by decide⟩⟩
instance : IsFld Try.prog 54 1 1 1 := ⟨⟨_, _, Try.underlying54, rfl, rfl, Try.sizeOf22, by decide⟩⟩
instance : IsVar Try.prog 55 true 2 := ⟨Try.isAgg55, Try.sizeOf55⟩
instance : IsNew Try.prog 55 [vlit (.slice none 0 0), vlit (.slice none 0 0)] := ⟨⟨_, Try.zeroValue55, fun _ => .cons rfl (.cons rfl (.nil))⟩⟩
instance : IsStruct Try.prog 55 [(0, 1), (1, 1)] := ⟨⟨_, Try.underlying55, fun w => by simp [Try.sizeOf22]⟩⟩
instance : IsFld Try.prog 55 0 0 1 := ⟨⟨_, _, Try.underlying55, rfl, rfl, Try.sizeOf22, by decide⟩⟩
instance : IsFld Try.prog 55 1 1 1 := ⟨⟨_, _, Try.underlying55, rfl, rfl, Try.sizeOf22, by decide⟩⟩
instance : IsVar Try.prog 60 true 2 := ⟨Try.isAgg60, Try.sizeOf60⟩
instance : IsNew Try.prog 60 [vlit (.slice none 0 0), vlit (.slice none 0 0)] := ⟨⟨_, Try.zeroValue60, fun _ => .cons rfl (.cons rfl (.nil))⟩⟩
instance : IsStruct Try.prog 60 [(0, 1), (1, 1)] := ⟨⟨_, Try.underlying60, fun w => by simp [Try.sizeOf22]⟩⟩
instance : IsFld Try.prog 60 0 0 1 := ⟨⟨_, _, Try.underlying60, rfl, rfl, Try.sizeOf22, by decide⟩⟩
instance : IsFld Try.prog 60 1 1 1 := ⟨⟨_, _, Try.underlying60, rfl, rfl, Try.sizeOf22, by decide⟩⟩
instance : IsVar Try.prog 72 true 4 := ⟨Try.isAgg72, Try.sizeOf72⟩
instance : IsNew Try.prog 72 [vlit (.pointer none), vlit (.pointer none), vlit (.pointer none), vlit (.string .empty)] := ⟨⟨_, Try.zeroValue72, fun _ => .cons rfl (.cons rfl (.cons rfl (.cons rfl (.nil))))⟩⟩
instance : IsStruct Try.prog 72 [(0, 1), (1, 1), (2, 1), (3, 1)] := ⟨⟨_, Try.underlying72, fun w => by simp [Try.sizeOf9, Try.sizeOf17]⟩⟩
instance : IsFld Try.prog 72 0 0 1 := ⟨⟨_, _, Try.underlying72, rfl, rfl, Try.sizeOf17, by decide⟩⟩
instance : IsFld Try.prog 72 1 1 1 := ⟨⟨_, _, Try.underlying72, rfl, rfl, Try.sizeOf17, by decide⟩⟩
instance : IsFld Try.prog 72 2 2 1 := ⟨⟨_, _, Try.underlying72, rfl, rfl, Try.sizeOf17, by decide⟩⟩
instance : IsFld Try.prog 72 3 3 1 := ⟨⟨_, _, Try.underlying72, rfl, rfl, Try.sizeOf9, by decide⟩⟩
instance : IsVar Try.prog 73 true 4 := ⟨Try.isAgg73, Try.sizeOf73⟩
instance : IsNew Try.prog 73 [vlit (.pointer none), vlit (.pointer none), vlit (.pointer none), vlit (.string .empty)] := ⟨⟨_, Try.zeroValue73, fun _ => .cons rfl (.cons rfl (.cons rfl (.cons rfl (.nil))))⟩⟩
instance : IsStruct Try.prog 73 [(0, 1), (1, 1), (2, 1), (3, 1)] := ⟨⟨_, Try.underlying73, fun w => by simp [Try.sizeOf9, Try.sizeOf17]⟩⟩
instance : IsFld Try.prog 73 0 0 1 := ⟨⟨_, _, Try.underlying73, rfl, rfl, Try.sizeOf17, by decide⟩⟩
instance : IsFld Try.prog 73 1 1 1 := ⟨⟨_, _, Try.underlying73, rfl, rfl, Try.sizeOf17, by decide⟩⟩
instance : IsFld Try.prog 73 2 2 1 := ⟨⟨_, _, Try.underlying73, rfl, rfl, Try.sizeOf17, by decide⟩⟩
instance : IsFld Try.prog 73 3 3 1 := ⟨⟨_, _, Try.underlying73, rfl, rfl, Try.sizeOf9, by decide⟩⟩
instance : IsVar Try.prog 74 true 0 := ⟨Try.isAgg74, Try.sizeOf74⟩
instance : IsNew Try.prog 74 [] := ⟨⟨_, Try.zeroValue74, fun _ => .nil⟩⟩
instance : IsVar Try.prog 75 true 0 := ⟨Try.isAgg75, Try.sizeOf75⟩
instance : IsNew Try.prog 75 [] := ⟨⟨_, Try.zeroValue75, fun _ => .nil⟩⟩
instance : IsVar Try.prog 76 true 0 := ⟨Try.isAgg76, Try.sizeOf76⟩
instance : IsNew Try.prog 76 [] := ⟨⟨_, Try.zeroValue76, fun _ => .nil⟩⟩
instance : IsVar Try.prog 78 false 1 := ⟨Try.isAgg78, Try.sizeOf78⟩
instance : IsNew Try.prog 78 [vlit (.int .u32 0)] := ⟨⟨_, Try.zeroValue78, fun _ => .cons rfl (.nil)⟩⟩
instance : IsVar Try.prog 79 false 1 := ⟨Try.isAgg79, Try.sizeOf79⟩
instance : IsNew Try.prog 79 [vlit (.int .u8 0)] := ⟨⟨_, Try.zeroValue79, fun _ => .cons rfl (.nil)⟩⟩
instance : IsVar Try.prog 80 false 1 := ⟨Try.isAgg80, Try.sizeOf80⟩
instance : IsNew Try.prog 80 [vlit (.int .u8 0)] := ⟨⟨_, Try.zeroValue80, fun _ => .cons rfl (.nil)⟩⟩
instance : IsVar Try.prog 82 false 1 := ⟨Try.isAgg82, Try.sizeOf82⟩
instance : IsNew Try.prog 82 [vlit (.pointer none)] := ⟨⟨_, Try.zeroValue82, fun _ => .cons rfl (.nil)⟩⟩
instance : IsVar Try.prog 83 false 1 := ⟨Try.isAgg83, Try.sizeOf83⟩
instance : IsNew Try.prog 83 [vlit (.int .i32 0)] := ⟨⟨_, Try.zeroValue83, fun _ => .cons rfl (.nil)⟩⟩
instance : IsVar Try.prog 84 false 1 := ⟨Try.isAgg84, Try.sizeOf84⟩
instance : IsNew Try.prog 84 [vlit (.int .i32 0)] := ⟨⟨_, Try.zeroValue84, fun _ => .cons rfl (.nil)⟩⟩
instance : IsVar Try.prog 85 true 11 := ⟨Try.isAgg85, Try.sizeOf85⟩
instance : IsNew Try.prog 85 [vlit (.int .u64 0), vlit (.int .u64 0), vlit (.int .u32 0), vlit (.int .u8 0), vlit (.int .u8 0), vlit (.int .u8 0), vlit (.int .u8 0), vlit (.nilFunc), vlit (.pointer none), vlit (.int .i32 0), vlit (.int .i32 0)] := ⟨⟨_, Try.zeroValue85, fun _ => .cons rfl (.cons rfl (.cons rfl (.cons rfl (.cons rfl (.cons rfl (.cons rfl (.cons rfl (.cons rfl (.cons rfl (.cons rfl (.nil)))))))))))⟩⟩
instance : IsStruct Try.prog 85 [(0, 1), (1, 1), (2, 1), (3, 1), (4, 1), (5, 1), (6, 1), (7, 1), (8, 1), (9, 1), (10, 1)] := ⟨⟨_, Try.underlying85, fun w => by simp [Try.sizeOf5, Try.sizeOf12, Try.sizeOf78, Try.sizeOf79, Try.sizeOf80, Try.sizeOf81, Try.sizeOf82, Try.sizeOf83, Try.sizeOf84]⟩⟩
instance : IsFld Try.prog 85 0 0 1 := ⟨⟨_, _, Try.underlying85, rfl, rfl, Try.sizeOf12, by decide⟩⟩
instance : IsFld Try.prog 85 1 1 1 := ⟨⟨_, _, Try.underlying85, rfl, rfl, Try.sizeOf12, by decide⟩⟩
instance : IsFld Try.prog 85 2 2 1 := ⟨⟨_, _, Try.underlying85, rfl, rfl, Try.sizeOf78, by decide⟩⟩
instance : IsFld Try.prog 85 3 3 1 := ⟨⟨_, _, Try.underlying85, rfl, rfl, Try.sizeOf79, by decide⟩⟩
instance : IsFld Try.prog 85 4 4 1 := ⟨⟨_, _, Try.underlying85, rfl, rfl, Try.sizeOf5, by decide⟩⟩
instance : IsFld Try.prog 85 5 5 1 := ⟨⟨_, _, Try.underlying85, rfl, rfl, Try.sizeOf5, by decide⟩⟩
instance : IsFld Try.prog 85 6 6 1 := ⟨⟨_, _, Try.underlying85, rfl, rfl, Try.sizeOf80, by decide⟩⟩
instance : IsFld Try.prog 85 7 7 1 := ⟨⟨_, _, Try.underlying85, rfl, rfl, Try.sizeOf81, by decide⟩⟩
instance : IsFld Try.prog 85 8 8 1 := ⟨⟨_, _, Try.underlying85, rfl, rfl, Try.sizeOf82, by decide⟩⟩
instance : IsFld Try.prog 85 9 9 1 := ⟨⟨_, _, Try.underlying85, rfl, rfl, Try.sizeOf83, by decide⟩⟩
instance : IsFld Try.prog 85 10 10 1 := ⟨⟨_, _, Try.underlying85, rfl, rfl, Try.sizeOf84, by decide⟩⟩
instance : IsVar Try.prog 86 true 11 := ⟨Try.isAgg86, Try.sizeOf86⟩
instance : IsNew Try.prog 86 [vlit (.int .u64 0), vlit (.int .u64 0), vlit (.int .u32 0), vlit (.int .u8 0), vlit (.int .u8 0), vlit (.int .u8 0), vlit (.int .u8 0), vlit (.nilFunc), vlit (.pointer none), vlit (.int .i32 0), vlit (.int .i32 0)] := ⟨⟨_, Try.zeroValue86, fun _ => .cons rfl (.cons rfl (.cons rfl (.cons rfl (.cons rfl (.cons rfl (.cons rfl (.cons rfl (.cons rfl (.cons rfl (.cons rfl (.nil)))))))))))⟩⟩
instance : IsStruct Try.prog 86 [(0, 1), (1, 1), (2, 1), (3, 1), (4, 1), (5, 1), (6, 1), (7, 1), (8, 1), (9, 1), (10, 1)] := ⟨⟨_, Try.underlying86, fun w => by simp [Try.sizeOf5, Try.sizeOf12, Try.sizeOf78, Try.sizeOf79, Try.sizeOf80, Try.sizeOf81, Try.sizeOf82, Try.sizeOf83, Try.sizeOf84]⟩⟩
instance : IsFld Try.prog 86 0 0 1 := ⟨⟨_, _, Try.underlying86, rfl, rfl, Try.sizeOf12, by decide⟩⟩
instance : IsFld Try.prog 86 1 1 1 := ⟨⟨_, _, Try.underlying86, rfl, rfl, Try.sizeOf12, by decide⟩⟩
instance : IsFld Try.prog 86 2 2 1 := ⟨⟨_, _, Try.underlying86, rfl, rfl, Try.sizeOf78, by decide⟩⟩
instance : IsFld Try.prog 86 3 3 1 := ⟨⟨_, _, Try.underlying86, rfl, rfl, Try.sizeOf79, by decide⟩⟩
instance : IsFld Try.prog 86 4 4 1 := ⟨⟨_, _, Try.underlying86, rfl, rfl, Try.sizeOf5, by decide⟩⟩
instance : IsFld Try.prog 86 5 5 1 := ⟨⟨_, _, Try.underlying86, rfl, rfl, Try.sizeOf5, by decide⟩⟩
instance : IsFld Try.prog 86 6 6 1 := ⟨⟨_, _, Try.underlying86, rfl, rfl, Try.sizeOf80, by decide⟩⟩
instance : IsFld Try.prog 86 7 7 1 := ⟨⟨_, _, Try.underlying86, rfl, rfl, Try.sizeOf81, by decide⟩⟩
instance : IsFld Try.prog 86 8 8 1 := ⟨⟨_, _, Try.underlying86, rfl, rfl, Try.sizeOf82, by decide⟩⟩
instance : IsFld Try.prog 86 9 9 1 := ⟨⟨_, _, Try.underlying86, rfl, rfl, Try.sizeOf83, by decide⟩⟩
instance : IsFld Try.prog 86 10 10 1 := ⟨⟨_, _, Try.underlying86, rfl, rfl, Try.sizeOf84, by decide⟩⟩
end Go.Proofs.Ytnnfadabhadihaa
