/-
  What the program table says of each type.
-/
import Derived.Test.YtghbdkndmmmgmaaDoorProg
import Derived.Test.YtghbdkndmmmgmaaDoorE2
import Derived.KernelRfl
set_option linter.all false
namespace Go.Proofs.YtghbdkndmmmgmaaDoor
open Go.En

instance iu0 : UT Tryd.prog 0 Tryd.t0.desc := ⟨Tryd.underlying0⟩
instance ii0 : TI Tryd.prog 0 (Value.tuple #[]) 1 0 := ⟨by kernel_rfl⟩
instance iu1 : UT Tryd.prog 1 Tryd.t1.desc := ⟨Tryd.underlying1⟩
instance ii1 : TI Tryd.prog 1 Value.nilFunc 1 8 := ⟨by kernel_rfl⟩
instance iu2 : UT Tryd.prog 2 (TypeDesc.int IntKind.i64) := ⟨Tryd.underlying2⟩
instance ii2 : TI Tryd.prog 2 (Value.int IntKind.i64 0) 1 8 := ⟨by kernel_rfl⟩
instance iu3 : UT Tryd.prog 3 (TypeDesc.int IntKind.i64) := ⟨Tryd.underlying3⟩
instance ii3 : TI Tryd.prog 3 (Value.int IntKind.i64 0) 1 8 := ⟨by kernel_rfl⟩
instance iu4 : UT Tryd.prog 4 (TypeDesc.bool) := ⟨Tryd.underlying4⟩
instance ii4 : TI Tryd.prog 4 (Value.bool false) 1 1 := ⟨by kernel_rfl⟩
instance iu5 : UT Tryd.prog 5 (TypeDesc.int IntKind.u8) := ⟨Tryd.underlying5⟩
instance ii5 : TI Tryd.prog 5 (Value.int IntKind.u8 0) 1 1 := ⟨by kernel_rfl⟩
instance iu6 : UT Tryd.prog 6 (TypeDesc.int IntKind.u8) := ⟨Tryd.underlying6⟩
instance ii6 : TI Tryd.prog 6 (Value.int IntKind.u8 0) 1 1 := ⟨by kernel_rfl⟩
instance iu7 : UT Tryd.prog 7 Tryd.t7.desc := ⟨Tryd.underlying7⟩
instance ii7 : TI Tryd.prog 7 (Value.agg #[Value.int IntKind.i64 0, Value.int IntKind.i64 0, Value.bool false, Value.int IntKind.u8 0]) 4 24 := ⟨by kernel_rfl⟩
instance ib7 : BT Tryd.prog 7 [(0, 1), (1, 1), (2, 1), (3, 1)] := ⟨⟨_, Tryd.underlying7, by kernel_rfl⟩⟩
instance is7_0 : SF Tryd.prog 7 0 0 2 := ⟨⟨_, _, Tryd.underlying7, rfl, rfl, rfl⟩⟩
instance is7_1 : SF Tryd.prog 7 1 1 3 := ⟨⟨_, _, Tryd.underlying7, rfl, rfl, rfl⟩⟩
instance is7_2 : SF Tryd.prog 7 2 2 4 := ⟨⟨_, _, Tryd.underlying7, rfl, rfl, rfl⟩⟩
instance is7_3 : SF Tryd.prog 7 3 3 6 := ⟨⟨_, _, Tryd.underlying7, rfl, rfl, rfl⟩⟩
instance iu8 : UT Tryd.prog 8 Tryd.t7.desc := ⟨Tryd.underlying8⟩
instance ii8 : TI Tryd.prog 8 (Value.agg #[Value.int IntKind.i64 0, Value.int IntKind.i64 0, Value.bool false, Value.int IntKind.u8 0]) 4 24 := ⟨by kernel_rfl⟩
instance ib8 : BT Tryd.prog 8 [(0, 1), (1, 1), (2, 1), (3, 1)] := ⟨⟨_, Tryd.underlying8, by kernel_rfl⟩⟩
instance is8_0 : SF Tryd.prog 8 0 0 2 := ⟨⟨_, _, Tryd.underlying8, rfl, rfl, rfl⟩⟩
instance is8_1 : SF Tryd.prog 8 1 1 3 := ⟨⟨_, _, Tryd.underlying8, rfl, rfl, rfl⟩⟩
instance is8_2 : SF Tryd.prog 8 2 2 4 := ⟨⟨_, _, Tryd.underlying8, rfl, rfl, rfl⟩⟩
instance is8_3 : SF Tryd.prog 8 3 3 6 := ⟨⟨_, _, Tryd.underlying8, rfl, rfl, rfl⟩⟩
instance iu9 : UT Tryd.prog 9 (TypeDesc.string) := ⟨Tryd.underlying9⟩
instance ii9 : TI Tryd.prog 9 (Value.string { data := #[] }) 1 16 := ⟨by kernel_rfl⟩
instance iu10 : UT Tryd.prog 10 (TypeDesc.string) := ⟨Tryd.underlying10⟩
instance ii10 : TI Tryd.prog 10 (Value.string { data := #[] }) 1 16 := ⟨by kernel_rfl⟩
instance iu11 : UT Tryd.prog 11 (TypeDesc.string) := ⟨Tryd.underlying11⟩
instance ii11 : TI Tryd.prog 11 (Value.string { data := #[] }) 1 16 := ⟨by kernel_rfl⟩
instance iu12 : UT Tryd.prog 12 (TypeDesc.int IntKind.u64) := ⟨Tryd.underlying12⟩
instance ii12 : TI Tryd.prog 12 (Value.int IntKind.u64 0) 1 8 := ⟨by kernel_rfl⟩
instance iu13 : UT Tryd.prog 13 Tryd.t13.desc := ⟨Tryd.underlying13⟩
instance ii13 : TI Tryd.prog 13 (Value.agg #[Value.string { data := #[] }, Value.int IntKind.u64 0]) 2 24 := ⟨by kernel_rfl⟩
instance ib13 : BT Tryd.prog 13 [(0, 1), (1, 1)] := ⟨⟨_, Tryd.underlying13, by kernel_rfl⟩⟩
instance is13_0 : SF Tryd.prog 13 0 0 9 := ⟨⟨_, _, Tryd.underlying13, rfl, rfl, rfl⟩⟩
instance is13_1 : SF Tryd.prog 13 1 1 12 := ⟨⟨_, _, Tryd.underlying13, rfl, rfl, rfl⟩⟩
instance iu14 : UT Tryd.prog 14 Tryd.t13.desc := ⟨Tryd.underlying14⟩
instance ii14 : TI Tryd.prog 14 (Value.agg #[Value.string { data := #[] }, Value.int IntKind.u64 0]) 2 24 := ⟨by kernel_rfl⟩
instance ib14 : BT Tryd.prog 14 [(0, 1), (1, 1)] := ⟨⟨_, Tryd.underlying14, by kernel_rfl⟩⟩
instance is14_0 : SF Tryd.prog 14 0 0 9 := ⟨⟨_, _, Tryd.underlying14, rfl, rfl, rfl⟩⟩
instance is14_1 : SF Tryd.prog 14 1 1 12 := ⟨⟨_, _, Tryd.underlying14, rfl, rfl, rfl⟩⟩
instance iu15 : UT Tryd.prog 15 (TypeDesc.pointer 63) := ⟨Tryd.underlying15⟩
instance ii15 : TI Tryd.prog 15 (Value.pointer none) 1 8 := ⟨by kernel_rfl⟩
instance iu16 : UT Tryd.prog 16 (TypeDesc.pointer 66) := ⟨Tryd.underlying16⟩
instance ii16 : TI Tryd.prog 16 (Value.pointer none) 1 8 := ⟨by kernel_rfl⟩
instance iu17 : UT Tryd.prog 17 (TypeDesc.pointer 76) := ⟨Tryd.underlying17⟩
instance ii17 : TI Tryd.prog 17 (Value.pointer none) 1 8 := ⟨by kernel_rfl⟩
instance iu18 : UT Tryd.prog 18 Tryd.t18.desc := ⟨Tryd.underlying18⟩
instance ii18 : TI Tryd.prog 18 (Value.agg #[Value.pointer none]) 1 8 := ⟨by kernel_rfl⟩
instance ib18 : BT Tryd.prog 18 [(0, 1)] := ⟨⟨_, Tryd.underlying18, by kernel_rfl⟩⟩
instance is18_0 : SF Tryd.prog 18 0 0 17 := ⟨⟨_, _, Tryd.underlying18, rfl, rfl, rfl⟩⟩
instance iu19 : UT Tryd.prog 19 Tryd.t18.desc := ⟨Tryd.underlying19⟩
instance ii19 : TI Tryd.prog 19 (Value.agg #[Value.pointer none]) 1 8 := ⟨by kernel_rfl⟩
instance ib19 : BT Tryd.prog 19 [(0, 1)] := ⟨⟨_, Tryd.underlying19, by kernel_rfl⟩⟩
instance is19_0 : SF Tryd.prog 19 0 0 17 := ⟨⟨_, _, Tryd.underlying19, rfl, rfl, rfl⟩⟩
instance iu20 : UT Tryd.prog 20 Tryd.t20.desc := ⟨Tryd.underlying20⟩
instance ii20 : TI Tryd.prog 20 Value.nilIface 1 16 := ⟨by kernel_rfl⟩
instance iu21 : UT Tryd.prog 21 (TypeDesc.int IntKind.i32) := ⟨Tryd.underlying21⟩
instance ii21 : TI Tryd.prog 21 (Value.int IntKind.i32 0) 1 4 := ⟨by kernel_rfl⟩
instance iu22 : UT Tryd.prog 22 (TypeDesc.int IntKind.i64) := ⟨Tryd.underlying22⟩
instance ii22 : TI Tryd.prog 22 (Value.int IntKind.i64 0) 1 8 := ⟨by kernel_rfl⟩
instance iu23 : UT Tryd.prog 23 Tryd.t23.desc := ⟨Tryd.underlying23⟩
instance ii23 : TI Tryd.prog 23 Value.nilFunc 1 8 := ⟨by kernel_rfl⟩
instance iu24 : UT Tryd.prog 24 Tryd.t24.desc := ⟨Tryd.underlying24⟩
instance ii24 : TI Tryd.prog 24 Value.nilFunc 1 8 := ⟨by kernel_rfl⟩
instance iu25 : UT Tryd.prog 25 Tryd.t25.desc := ⟨Tryd.underlying25⟩
instance ii25 : TI Tryd.prog 25 Value.nilFunc 1 8 := ⟨by kernel_rfl⟩
instance iu26 : UT Tryd.prog 26 Tryd.t26.desc := ⟨Tryd.underlying26⟩
instance ii26 : TI Tryd.prog 26 Value.nilFunc 1 8 := ⟨by kernel_rfl⟩
instance iu27 : UT Tryd.prog 27 Tryd.t27.desc := ⟨Tryd.underlying27⟩
instance ii27 : TI Tryd.prog 27 (Value.tuple #[Value.string { data := #[] }, Value.bool false]) 1 0 := ⟨by kernel_rfl⟩
instance iu28 : UT Tryd.prog 28 Tryd.t28.desc := ⟨Tryd.underlying28⟩
instance ii28 : TI Tryd.prog 28 Value.nilFunc 1 8 := ⟨by kernel_rfl⟩
instance iu29 : UT Tryd.prog 29 Tryd.t29.desc := ⟨Tryd.underlying29⟩
instance ii29 : TI Tryd.prog 29 Value.nilFunc 1 8 := ⟨by kernel_rfl⟩
instance iu30 : UT Tryd.prog 30 (TypeDesc.slice 3) := ⟨Tryd.underlying30⟩
instance ii30 : TI Tryd.prog 30 (Value.slice none 0 0) 1 24 := ⟨by kernel_rfl⟩
instance iu31 : UT Tryd.prog 31 Tryd.t31.desc := ⟨Tryd.underlying31⟩
instance ii31 : TI Tryd.prog 31 (Value.tuple #[Value.slice none 0 0, Value.bool false]) 1 0 := ⟨by kernel_rfl⟩
instance iu32 : UT Tryd.prog 32 Tryd.t32.desc := ⟨Tryd.underlying32⟩
instance ii32 : TI Tryd.prog 32 Value.nilFunc 1 8 := ⟨by kernel_rfl⟩
instance iu33 : UT Tryd.prog 33 Tryd.t33.desc := ⟨Tryd.underlying33⟩
instance ii33 : TI Tryd.prog 33 Value.nilFunc 1 8 := ⟨by kernel_rfl⟩
instance iu34 : UT Tryd.prog 34 (TypeDesc.slice 5) := ⟨Tryd.underlying34⟩
instance ii34 : TI Tryd.prog 34 (Value.slice none 0 0) 1 24 := ⟨by kernel_rfl⟩
instance iu35 : UT Tryd.prog 35 Tryd.t35.desc := ⟨Tryd.underlying35⟩
instance ii35 : TI Tryd.prog 35 Value.nilFunc 1 8 := ⟨by kernel_rfl⟩
instance iu36 : UT Tryd.prog 36 (TypeDesc.slice 44) := ⟨Tryd.underlying36⟩
instance ii36 : TI Tryd.prog 36 (Value.slice none 0 0) 1 24 := ⟨by kernel_rfl⟩
instance iu37 : UT Tryd.prog 37 Tryd.t37.desc := ⟨Tryd.underlying37⟩
instance ii37 : TI Tryd.prog 37 (Value.tuple #[Value.slice none 0 0, Value.bool false]) 1 0 := ⟨by kernel_rfl⟩
instance iu38 : UT Tryd.prog 38 Tryd.t38.desc := ⟨Tryd.underlying38⟩
instance ii38 : TI Tryd.prog 38 Value.nilFunc 1 8 := ⟨by kernel_rfl⟩
instance iu39 : UT Tryd.prog 39 Tryd.t39.desc := ⟨Tryd.underlying39⟩
instance ii39 : TI Tryd.prog 39 (Value.tuple #[Value.slice none 0 0, Value.int IntKind.i64 0]) 1 0 := ⟨by kernel_rfl⟩
instance iu40 : UT Tryd.prog 40 Tryd.t40.desc := ⟨Tryd.underlying40⟩
instance ii40 : TI Tryd.prog 40 Value.nilFunc 1 8 := ⟨by kernel_rfl⟩
instance iu41 : UT Tryd.prog 41 (TypeDesc.slice 21) := ⟨Tryd.underlying41⟩
instance ii41 : TI Tryd.prog 41 (Value.slice none 0 0) 1 24 := ⟨by kernel_rfl⟩
instance iu42 : UT Tryd.prog 42 (TypeDesc.slice 4) := ⟨Tryd.underlying42⟩
instance ii42 : TI Tryd.prog 42 (Value.slice none 0 0) 1 24 := ⟨by kernel_rfl⟩
instance iu43 : UT Tryd.prog 43 Tryd.t43.desc := ⟨Tryd.underlying43⟩
instance ii43 : TI Tryd.prog 43 (Value.agg #[Value.int IntKind.i64 0, Value.int IntKind.i32 0]) 2 16 := ⟨by kernel_rfl⟩
instance ib43 : BT Tryd.prog 43 [(0, 1), (1, 1)] := ⟨⟨_, Tryd.underlying43, by kernel_rfl⟩⟩
instance is43_0 : SF Tryd.prog 43 0 0 3 := ⟨⟨_, _, Tryd.underlying43, rfl, rfl, rfl⟩⟩
instance is43_1 : SF Tryd.prog 43 1 1 21 := ⟨⟨_, _, Tryd.underlying43, rfl, rfl, rfl⟩⟩
instance iu44 : UT Tryd.prog 44 Tryd.t43.desc := ⟨Tryd.underlying44⟩
instance ii44 : TI Tryd.prog 44 (Value.agg #[Value.int IntKind.i64 0, Value.int IntKind.i32 0]) 2 16 := ⟨by kernel_rfl⟩
instance ib44 : BT Tryd.prog 44 [(0, 1), (1, 1)] := ⟨⟨_, Tryd.underlying44, by kernel_rfl⟩⟩
instance is44_0 : SF Tryd.prog 44 0 0 3 := ⟨⟨_, _, Tryd.underlying44, rfl, rfl, rfl⟩⟩
instance is44_1 : SF Tryd.prog 44 1 1 21 := ⟨⟨_, _, Tryd.underlying44, rfl, rfl, rfl⟩⟩
instance iu45 : UT Tryd.prog 45 Tryd.t45.desc := ⟨Tryd.underlying45⟩
instance ii45 : TI Tryd.prog 45 Value.nilFunc 1 8 := ⟨by kernel_rfl⟩
instance iu46 : UT Tryd.prog 46 Tryd.t46.desc := ⟨Tryd.underlying46⟩
instance ii46 : TI Tryd.prog 46 Value.nilFunc 1 8 := ⟨by kernel_rfl⟩
instance iu47 : UT Tryd.prog 47 Tryd.t47.desc := ⟨Tryd.underlying47⟩
instance ii47 : TI Tryd.prog 47 Value.nilFunc 1 8 := ⟨by kernel_rfl⟩
instance iu48 : UT Tryd.prog 48 Tryd.t47.desc := ⟨Tryd.underlying48⟩
instance ii48 : TI Tryd.prog 48 Value.nilFunc 1 8 := ⟨by kernel_rfl⟩
instance iu49 : UT Tryd.prog 49 Tryd.t49.desc := ⟨Tryd.underlying49⟩
instance ii49 : TI Tryd.prog 49 Value.nilFunc 1 8 := ⟨by kernel_rfl⟩
instance iu50 : UT Tryd.prog 50 Tryd.t50.desc := ⟨Tryd.underlying50⟩
instance ii50 : TI Tryd.prog 50 (Value.tuple #[Value.int IntKind.i64 0, Value.int IntKind.i64 0]) 1 0 := ⟨by kernel_rfl⟩
instance iu51 : UT Tryd.prog 51 Tryd.t51.desc := ⟨Tryd.underlying51⟩
instance ii51 : TI Tryd.prog 51 Value.nilFunc 1 8 := ⟨by kernel_rfl⟩
instance iu52 : UT Tryd.prog 52 Tryd.t52.desc := ⟨Tryd.underlying52⟩
instance ii52 : TI Tryd.prog 52 Value.nilFunc 1 8 := ⟨by kernel_rfl⟩
instance iu53 : UT Tryd.prog 53 Tryd.t53.desc := ⟨Tryd.underlying53⟩
instance ii53 : TI Tryd.prog 53 Value.nilFunc 1 8 := ⟨by kernel_rfl⟩
instance iu54 : UT Tryd.prog 54 (TypeDesc.array 256 5) := ⟨Tryd.underlying54⟩
instance ii54 : TI Tryd.prog 54 (Value.agg (([Value.int IntKind.u8 0, Value.int IntKind.u8 0, Value.int IntKind.u8 0, Value.int IntKind.u8 0, Value.int IntKind.u8 0, Value.int IntKind.u8 0, Value.int IntKind.u8 0, Value.int IntKind.u8 0, Value.int IntKind.u8 0, Value.int IntKind.u8 0, Value.int IntKind.u8 0, Value.int IntKind.u8 0, Value.int IntKind.u8 0, Value.int IntKind.u8 0, Value.int IntKind.u8 0, Value.int IntKind.u8 0, Value.int IntKind.u8 0, Value.int IntKind.u8 0, Value.int IntKind.u8 0, Value.int IntKind.u8 0, Value.int IntKind.u8 0, Value.int IntKind.u8 0, Value.int IntKind.u8 0, Value.int IntKind.u8 0, Value.int IntKind.u8 0, Value.int IntKind.u8 0, Value.int IntKind.u8 0, Value.int IntKind.u8 0, Value.int IntKind.u8 0, Value.int IntKind.u8 0, Value.int IntKind.u8 0, Value.int IntKind.u8 0, Value.int IntKind.u8 0, Value.int IntKind.u8 0, Value.int IntKind.u8 0, Value.int IntKind.u8 0, Value.int IntKind.u8 0, Value.int IntKind.u8 0, Value.int IntKind.u8 0, Value.int IntKind.u8 0, Value.int IntKind.u8 0, Value.int IntKind.u8 0, Value.int IntKind.u8 0, Value.int IntKind.u8 0, Value.int IntKind.u8 0, Value.int IntKind.u8 0, Value.int IntKind.u8 0, Value.int IntKind.u8 0, Value.int IntKind.u8 0, Value.int IntKind.u8 0, Value.int IntKind.u8 0, Value.int IntKind.u8 0, Value.int IntKind.u8 0, Value.int IntKind.u8 0, Value.int IntKind.u8 0, Value.int IntKind.u8 0, Value.int IntKind.u8 0, Value.int IntKind.u8 0, Value.int IntKind.u8 0, Value.int IntKind.u8 0, Value.int IntKind.u8 0, Value.int IntKind.u8 0, Value.int IntKind.u8 0, Value.int IntKind.u8 0].append [Value.int IntKind.u8 0, Value.int IntKind.u8 0, Value.int IntKind.u8 0, Value.int IntKind.u8 0, Value.int IntKind.u8 0, Value.int IntKind.u8 0, Value.int IntKind.u8 0, Value.int IntKind.u8 0, Value.int IntKind.u8 0, Value.int IntKind.u8 0, Value.int IntKind.u8 0, Value.int IntKind.u8 0, Value.int IntKind.u8 0, Value.int IntKind.u8 0, Value.int IntKind.u8 0, Value.int IntKind.u8 0, Value.int IntKind.u8 0, Value.int IntKind.u8 0, Value.int IntKind.u8 0, Value.int IntKind.u8 0, Value.int IntKind.u8 0, Value.int IntKind.u8 0, Value.int IntKind.u8 0, Value.int IntKind.u8 0, Value.int IntKind.u8 0, Value.int IntKind.u8 0, Value.int IntKind.u8 0, Value.int IntKind.u8 0, Value.int IntKind.u8 0, Value.int IntKind.u8 0, Value.int IntKind.u8 0, Value.int IntKind.u8 0, Value.int IntKind.u8 0, Value.int IntKind.u8 0, Value.int IntKind.u8 0, Value.int IntKind.u8 0, Value.int IntKind.u8 0, Value.int IntKind.u8 0, Value.int IntKind.u8 0, Value.int IntKind.u8 0, Value.int IntKind.u8 0, Value.int IntKind.u8 0, Value.int IntKind.u8 0, Value.int IntKind.u8 0, Value.int IntKind.u8 0, Value.int IntKind.u8 0, Value.int IntKind.u8 0, Value.int IntKind.u8 0, Value.int IntKind.u8 0, Value.int IntKind.u8 0, Value.int IntKind.u8 0, Value.int IntKind.u8 0, Value.int IntKind.u8 0, Value.int IntKind.u8 0, Value.int IntKind.u8 0, Value.int IntKind.u8 0, Value.int IntKind.u8 0, Value.int IntKind.u8 0, Value.int IntKind.u8 0, Value.int IntKind.u8 0, Value.int IntKind.u8 0, Value.int IntKind.u8 0, Value.int IntKind.u8 0, Value.int IntKind.u8 0]).append ([Value.int IntKind.u8 0, Value.int IntKind.u8 0, Value.int IntKind.u8 0, Value.int IntKind.u8 0, Value.int IntKind.u8 0, Value.int IntKind.u8 0, Value.int IntKind.u8 0, Value.int IntKind.u8 0, Value.int IntKind.u8 0, Value.int IntKind.u8 0, Value.int IntKind.u8 0, Value.int IntKind.u8 0, Value.int IntKind.u8 0, Value.int IntKind.u8 0, Value.int IntKind.u8 0, Value.int IntKind.u8 0, Value.int IntKind.u8 0, Value.int IntKind.u8 0, Value.int IntKind.u8 0, Value.int IntKind.u8 0, Value.int IntKind.u8 0, Value.int IntKind.u8 0, Value.int IntKind.u8 0, Value.int IntKind.u8 0, Value.int IntKind.u8 0, Value.int IntKind.u8 0, Value.int IntKind.u8 0, Value.int IntKind.u8 0, Value.int IntKind.u8 0, Value.int IntKind.u8 0, Value.int IntKind.u8 0, Value.int IntKind.u8 0, Value.int IntKind.u8 0, Value.int IntKind.u8 0, Value.int IntKind.u8 0, Value.int IntKind.u8 0, Value.int IntKind.u8 0, Value.int IntKind.u8 0, Value.int IntKind.u8 0, Value.int IntKind.u8 0, Value.int IntKind.u8 0, Value.int IntKind.u8 0, Value.int IntKind.u8 0, Value.int IntKind.u8 0, Value.int IntKind.u8 0, Value.int IntKind.u8 0, Value.int IntKind.u8 0, Value.int IntKind.u8 0, Value.int IntKind.u8 0, Value.int IntKind.u8 0, Value.int IntKind.u8 0, Value.int IntKind.u8 0, Value.int IntKind.u8 0, Value.int IntKind.u8 0, Value.int IntKind.u8 0, Value.int IntKind.u8 0, Value.int IntKind.u8 0, Value.int IntKind.u8 0, Value.int IntKind.u8 0, Value.int IntKind.u8 0, Value.int IntKind.u8 0, Value.int IntKind.u8 0, Value.int IntKind.u8 0, Value.int IntKind.u8 0].append [Value.int IntKind.u8 0, Value.int IntKind.u8 0, Value.int IntKind.u8 0, Value.int IntKind.u8 0, Value.int IntKind.u8 0, Value.int IntKind.u8 0, Value.int IntKind.u8 0, Value.int IntKind.u8 0, Value.int IntKind.u8 0, Value.int IntKind.u8 0, Value.int IntKind.u8 0, Value.int IntKind.u8 0, Value.int IntKind.u8 0, Value.int IntKind.u8 0, Value.int IntKind.u8 0, Value.int IntKind.u8 0, Value.int IntKind.u8 0, Value.int IntKind.u8 0, Value.int IntKind.u8 0, Value.int IntKind.u8 0, Value.int IntKind.u8 0, Value.int IntKind.u8 0, Value.int IntKind.u8 0, Value.int IntKind.u8 0, Value.int IntKind.u8 0, Value.int IntKind.u8 0, Value.int IntKind.u8 0, Value.int IntKind.u8 0, Value.int IntKind.u8 0, Value.int IntKind.u8 0, Value.int IntKind.u8 0, Value.int IntKind.u8 0, Value.int IntKind.u8 0, Value.int IntKind.u8 0, Value.int IntKind.u8 0, Value.int IntKind.u8 0, Value.int IntKind.u8 0, Value.int IntKind.u8 0, Value.int IntKind.u8 0, Value.int IntKind.u8 0, Value.int IntKind.u8 0, Value.int IntKind.u8 0, Value.int IntKind.u8 0, Value.int IntKind.u8 0, Value.int IntKind.u8 0, Value.int IntKind.u8 0, Value.int IntKind.u8 0, Value.int IntKind.u8 0, Value.int IntKind.u8 0, Value.int IntKind.u8 0, Value.int IntKind.u8 0, Value.int IntKind.u8 0, Value.int IntKind.u8 0, Value.int IntKind.u8 0, Value.int IntKind.u8 0, Value.int IntKind.u8 0, Value.int IntKind.u8 0, Value.int IntKind.u8 0, Value.int IntKind.u8 0, Value.int IntKind.u8 0, Value.int IntKind.u8 0, Value.int IntKind.u8 0, Value.int IntKind.u8 0, Value.int IntKind.u8 0])).toArray) 256 256 := ⟨by kernel_rfl⟩
instance iu55 : UT Tryd.prog 55 Tryd.t55.desc := ⟨Tryd.underlying55⟩
instance ii55 : TI Tryd.prog 55 (Value.agg #[Value.int IntKind.u8 0, Value.int IntKind.u8 0]) 2 2 := ⟨by kernel_rfl⟩
instance ib55 : BT Tryd.prog 55 [(0, 1), (1, 1)] := ⟨⟨_, Tryd.underlying55, by kernel_rfl⟩⟩
instance is55_0 : SF Tryd.prog 55 0 0 5 := ⟨⟨_, _, Tryd.underlying55, rfl, rfl, rfl⟩⟩
instance is55_1 : SF Tryd.prog 55 1 1 5 := ⟨⟨_, _, Tryd.underlying55, rfl, rfl, rfl⟩⟩
instance iu56 : UT Tryd.prog 56 Tryd.t55.desc := ⟨Tryd.underlying56⟩
instance ii56 : TI Tryd.prog 56 (Value.agg #[Value.int IntKind.u8 0, Value.int IntKind.u8 0]) 2 2 := ⟨by kernel_rfl⟩
instance ib56 : BT Tryd.prog 56 [(0, 1), (1, 1)] := ⟨⟨_, Tryd.underlying56, by kernel_rfl⟩⟩
instance is56_0 : SF Tryd.prog 56 0 0 5 := ⟨⟨_, _, Tryd.underlying56, rfl, rfl, rfl⟩⟩
instance is56_1 : SF Tryd.prog 56 1 1 5 := ⟨⟨_, _, Tryd.underlying56, rfl, rfl, rfl⟩⟩
instance iu57 : UT Tryd.prog 57 (TypeDesc.array 16 56) := ⟨Tryd.underlying57⟩
instance ii57 : TI Tryd.prog 57 (Value.agg #[Value.int IntKind.u8 0, Value.int IntKind.u8 0, Value.int IntKind.u8 0, Value.int IntKind.u8 0, Value.int IntKind.u8 0, Value.int IntKind.u8 0, Value.int IntKind.u8 0, Value.int IntKind.u8 0, Value.int IntKind.u8 0, Value.int IntKind.u8 0, Value.int IntKind.u8 0, Value.int IntKind.u8 0, Value.int IntKind.u8 0, Value.int IntKind.u8 0, Value.int IntKind.u8 0, Value.int IntKind.u8 0, Value.int IntKind.u8 0, Value.int IntKind.u8 0, Value.int IntKind.u8 0, Value.int IntKind.u8 0, Value.int IntKind.u8 0, Value.int IntKind.u8 0, Value.int IntKind.u8 0, Value.int IntKind.u8 0, Value.int IntKind.u8 0, Value.int IntKind.u8 0, Value.int IntKind.u8 0, Value.int IntKind.u8 0, Value.int IntKind.u8 0, Value.int IntKind.u8 0, Value.int IntKind.u8 0, Value.int IntKind.u8 0]) 32 32 := ⟨by kernel_rfl⟩
instance iu58 : UT Tryd.prog 58 (TypeDesc.int IntKind.u64) := ⟨Tryd.underlying58⟩
instance ii58 : TI Tryd.prog 58 (Value.int IntKind.u64 0) 1 8 := ⟨by kernel_rfl⟩
instance iu59 : UT Tryd.prog 59 Tryd.t59.desc := ⟨Tryd.underlying59⟩
instance ii59 : TI Tryd.prog 59 Value.nilFunc 1 8 := ⟨by kernel_rfl⟩
instance iu60 : UT Tryd.prog 60 (TypeDesc.int IntKind.u64) := ⟨Tryd.underlying60⟩
instance ii60 : TI Tryd.prog 60 (Value.int IntKind.u64 0) 1 8 := ⟨by kernel_rfl⟩
instance iu61 : UT Tryd.prog 61 Tryd.t61.desc := ⟨Tryd.underlying61⟩
instance ii61 : TI Tryd.prog 61 Value.nilFunc 1 8 := ⟨by kernel_rfl⟩
instance iu62 : UT Tryd.prog 62 Tryd.t62.desc := ⟨Tryd.underlying62⟩
instance ii62 : TI Tryd.prog 62 (Value.agg #[Value.pointer none, Value.pointer none, Value.pointer none, Value.string { data := #[] }]) 4 40 := ⟨by kernel_rfl⟩
instance ib62 : BT Tryd.prog 62 [(0, 1), (1, 1), (2, 1), (3, 1)] := ⟨⟨_, Tryd.underlying62, by kernel_rfl⟩⟩
instance is62_0 : SF Tryd.prog 62 0 0 17 := ⟨⟨_, _, Tryd.underlying62, rfl, rfl, rfl⟩⟩
instance is62_1 : SF Tryd.prog 62 1 1 17 := ⟨⟨_, _, Tryd.underlying62, rfl, rfl, rfl⟩⟩
instance is62_2 : SF Tryd.prog 62 2 2 17 := ⟨⟨_, _, Tryd.underlying62, rfl, rfl, rfl⟩⟩
instance is62_3 : SF Tryd.prog 62 3 3 9 := ⟨⟨_, _, Tryd.underlying62, rfl, rfl, rfl⟩⟩
instance iu63 : UT Tryd.prog 63 Tryd.t62.desc := ⟨Tryd.underlying63⟩
instance ii63 : TI Tryd.prog 63 (Value.agg #[Value.pointer none, Value.pointer none, Value.pointer none, Value.string { data := #[] }]) 4 40 := ⟨by kernel_rfl⟩
instance ib63 : BT Tryd.prog 63 [(0, 1), (1, 1), (2, 1), (3, 1)] := ⟨⟨_, Tryd.underlying63, by kernel_rfl⟩⟩
instance is63_0 : SF Tryd.prog 63 0 0 17 := ⟨⟨_, _, Tryd.underlying63, rfl, rfl, rfl⟩⟩
instance is63_1 : SF Tryd.prog 63 1 1 17 := ⟨⟨_, _, Tryd.underlying63, rfl, rfl, rfl⟩⟩
instance is63_2 : SF Tryd.prog 63 2 2 17 := ⟨⟨_, _, Tryd.underlying63, rfl, rfl, rfl⟩⟩
instance is63_3 : SF Tryd.prog 63 3 3 9 := ⟨⟨_, _, Tryd.underlying63, rfl, rfl, rfl⟩⟩
instance iu64 : UT Tryd.prog 64 (TypeDesc.array 0 16) := ⟨Tryd.underlying64⟩
instance ii64 : TI Tryd.prog 64 (Value.agg #[]) 0 0 := ⟨by kernel_rfl⟩
instance iu65 : UT Tryd.prog 65 Tryd.t65.desc := ⟨Tryd.underlying65⟩
instance ii65 : TI Tryd.prog 65 (Value.agg #[]) 0 0 := ⟨by kernel_rfl⟩
instance ib65 : BT Tryd.prog 65 [(0, 0)] := ⟨⟨_, Tryd.underlying65, by kernel_rfl⟩⟩
instance is65_0 : SF Tryd.prog 65 0 0 64 := ⟨⟨_, _, Tryd.underlying65, rfl, rfl, rfl⟩⟩
instance iu66 : UT Tryd.prog 66 Tryd.t65.desc := ⟨Tryd.underlying66⟩
instance ii66 : TI Tryd.prog 66 (Value.agg #[]) 0 0 := ⟨by kernel_rfl⟩
instance ib66 : BT Tryd.prog 66 [(0, 0)] := ⟨⟨_, Tryd.underlying66, by kernel_rfl⟩⟩
instance is66_0 : SF Tryd.prog 66 0 0 64 := ⟨⟨_, _, Tryd.underlying66, rfl, rfl, rfl⟩⟩
instance iu67 : UT Tryd.prog 67 Tryd.t67.desc := ⟨Tryd.underlying67⟩
instance ii67 : TI Tryd.prog 67 Value.nilFunc 1 8 := ⟨by kernel_rfl⟩
instance iu68 : UT Tryd.prog 68 (TypeDesc.int IntKind.u32) := ⟨Tryd.underlying68⟩
instance ii68 : TI Tryd.prog 68 (Value.int IntKind.u32 0) 1 4 := ⟨by kernel_rfl⟩
instance iu69 : UT Tryd.prog 69 (TypeDesc.int IntKind.u8) := ⟨Tryd.underlying69⟩
instance ii69 : TI Tryd.prog 69 (Value.int IntKind.u8 0) 1 1 := ⟨by kernel_rfl⟩
instance iu70 : UT Tryd.prog 70 (TypeDesc.int IntKind.u8) := ⟨Tryd.underlying70⟩
instance ii70 : TI Tryd.prog 70 (Value.int IntKind.u8 0) 1 1 := ⟨by kernel_rfl⟩
instance iu71 : UT Tryd.prog 71 Tryd.t71.desc := ⟨Tryd.underlying71⟩
instance ii71 : TI Tryd.prog 71 Value.nilFunc 1 8 := ⟨by kernel_rfl⟩
instance iu72 : UT Tryd.prog 72 (TypeDesc.pointer 5) := ⟨Tryd.underlying72⟩
instance ii72 : TI Tryd.prog 72 (Value.pointer none) 1 8 := ⟨by kernel_rfl⟩
instance iu73 : UT Tryd.prog 73 (TypeDesc.int IntKind.i32) := ⟨Tryd.underlying73⟩
instance ii73 : TI Tryd.prog 73 (Value.int IntKind.i32 0) 1 4 := ⟨by kernel_rfl⟩
instance iu74 : UT Tryd.prog 74 (TypeDesc.int IntKind.i32) := ⟨Tryd.underlying74⟩
instance ii74 : TI Tryd.prog 74 (Value.int IntKind.i32 0) 1 4 := ⟨by kernel_rfl⟩
instance iu75 : UT Tryd.prog 75 Tryd.t75.desc := ⟨Tryd.underlying75⟩
instance ii75 : TI Tryd.prog 75 (Value.agg #[Value.int IntKind.u64 0, Value.int IntKind.u64 0, Value.int IntKind.u32 0, Value.int IntKind.u8 0, Value.int IntKind.u8 0, Value.int IntKind.u8 0, Value.int IntKind.u8 0, Value.nilFunc, Value.pointer none, Value.int IntKind.i32 0, Value.int IntKind.i32 0]) 11 48 := ⟨by kernel_rfl⟩
instance ib75 : BT Tryd.prog 75 [(0, 1), (1, 1), (2, 1), (3, 1), (4, 1), (5, 1), (6, 1), (7, 1), (8, 1), (9, 1), (10, 1)] := ⟨⟨_, Tryd.underlying75, by kernel_rfl⟩⟩
instance is75_0 : SF Tryd.prog 75 0 0 12 := ⟨⟨_, _, Tryd.underlying75, rfl, rfl, rfl⟩⟩
instance is75_1 : SF Tryd.prog 75 1 1 12 := ⟨⟨_, _, Tryd.underlying75, rfl, rfl, rfl⟩⟩
instance is75_2 : SF Tryd.prog 75 2 2 68 := ⟨⟨_, _, Tryd.underlying75, rfl, rfl, rfl⟩⟩
instance is75_3 : SF Tryd.prog 75 3 3 69 := ⟨⟨_, _, Tryd.underlying75, rfl, rfl, rfl⟩⟩
instance is75_4 : SF Tryd.prog 75 4 4 5 := ⟨⟨_, _, Tryd.underlying75, rfl, rfl, rfl⟩⟩
instance is75_5 : SF Tryd.prog 75 5 5 5 := ⟨⟨_, _, Tryd.underlying75, rfl, rfl, rfl⟩⟩
instance is75_6 : SF Tryd.prog 75 6 6 70 := ⟨⟨_, _, Tryd.underlying75, rfl, rfl, rfl⟩⟩
instance is75_7 : SF Tryd.prog 75 7 7 71 := ⟨⟨_, _, Tryd.underlying75, rfl, rfl, rfl⟩⟩
instance is75_8 : SF Tryd.prog 75 8 8 72 := ⟨⟨_, _, Tryd.underlying75, rfl, rfl, rfl⟩⟩
instance is75_9 : SF Tryd.prog 75 9 9 73 := ⟨⟨_, _, Tryd.underlying75, rfl, rfl, rfl⟩⟩
instance is75_10 : SF Tryd.prog 75 10 10 74 := ⟨⟨_, _, Tryd.underlying75, rfl, rfl, rfl⟩⟩
instance iu76 : UT Tryd.prog 76 Tryd.t75.desc := ⟨Tryd.underlying76⟩
instance ii76 : TI Tryd.prog 76 (Value.agg #[Value.int IntKind.u64 0, Value.int IntKind.u64 0, Value.int IntKind.u32 0, Value.int IntKind.u8 0, Value.int IntKind.u8 0, Value.int IntKind.u8 0, Value.int IntKind.u8 0, Value.nilFunc, Value.pointer none, Value.int IntKind.i32 0, Value.int IntKind.i32 0]) 11 48 := ⟨by kernel_rfl⟩
instance ib76 : BT Tryd.prog 76 [(0, 1), (1, 1), (2, 1), (3, 1), (4, 1), (5, 1), (6, 1), (7, 1), (8, 1), (9, 1), (10, 1)] := ⟨⟨_, Tryd.underlying76, by kernel_rfl⟩⟩
instance is76_0 : SF Tryd.prog 76 0 0 12 := ⟨⟨_, _, Tryd.underlying76, rfl, rfl, rfl⟩⟩
instance is76_1 : SF Tryd.prog 76 1 1 12 := ⟨⟨_, _, Tryd.underlying76, rfl, rfl, rfl⟩⟩
instance is76_2 : SF Tryd.prog 76 2 2 68 := ⟨⟨_, _, Tryd.underlying76, rfl, rfl, rfl⟩⟩
instance is76_3 : SF Tryd.prog 76 3 3 69 := ⟨⟨_, _, Tryd.underlying76, rfl, rfl, rfl⟩⟩
instance is76_4 : SF Tryd.prog 76 4 4 5 := ⟨⟨_, _, Tryd.underlying76, rfl, rfl, rfl⟩⟩
instance is76_5 : SF Tryd.prog 76 5 5 5 := ⟨⟨_, _, Tryd.underlying76, rfl, rfl, rfl⟩⟩
instance is76_6 : SF Tryd.prog 76 6 6 70 := ⟨⟨_, _, Tryd.underlying76, rfl, rfl, rfl⟩⟩
instance is76_7 : SF Tryd.prog 76 7 7 71 := ⟨⟨_, _, Tryd.underlying76, rfl, rfl, rfl⟩⟩
instance is76_8 : SF Tryd.prog 76 8 8 72 := ⟨⟨_, _, Tryd.underlying76, rfl, rfl, rfl⟩⟩
instance is76_9 : SF Tryd.prog 76 9 9 73 := ⟨⟨_, _, Tryd.underlying76, rfl, rfl, rfl⟩⟩
instance is76_10 : SF Tryd.prog 76 10 10 74 := ⟨⟨_, _, Tryd.underlying76, rfl, rfl, rfl⟩⟩
instance iu77 : UT Tryd.prog 77 (TypeDesc.unsafePointer) := ⟨Tryd.underlying77⟩
instance ii77 : TI Tryd.prog 77 (Value.pointer none) 1 8 := ⟨by kernel_rfl⟩
theorem en3 : ∀ args w, (Go.callFunc 3 args).run Tryd.prog w = .ok (.enter 3 args) w := enters_fn Tryd.func3 (by kernel_rfl) rfl
theorem en4 : ∀ args w, (Go.callFunc 4 args).run Tryd.prog w = .ok (.enter 4 args) w := enters_fn Tryd.func4 (by kernel_rfl) rfl
theorem en5 : ∀ args w, (Go.callFunc 5 args).run Tryd.prog w = .ok (.enter 5 args) w := enters_fn Tryd.func5 (by kernel_rfl) rfl
theorem en6 : ∀ args w, (Go.callFunc 6 args).run Tryd.prog w = .ok (.enter 6 args) w := enters_fn Tryd.func6 (by kernel_rfl) rfl
theorem en7 : ∀ args w, (Go.callFunc 7 args).run Tryd.prog w = .ok (.enter 7 args) w := enters_fn Tryd.func7 (by kernel_rfl) rfl
theorem en8 : ∀ args w, (Go.callFunc 8 args).run Tryd.prog w = .ok (.enter 8 args) w := enters_fn Tryd.func8 (by kernel_rfl) rfl
theorem en9 : ∀ args w, (Go.callFunc 9 args).run Tryd.prog w = .ok (.enter 9 args) w := enters_fn Tryd.func9 (by kernel_rfl) rfl
theorem en10 : ∀ args w, (Go.callFunc 10 args).run Tryd.prog w = .ok (.enter 10 args) w := enters_fn Tryd.func10 (by kernel_rfl) rfl
theorem en11 : ∀ args w, (Go.callFunc 11 args).run Tryd.prog w = .ok (.enter 11 args) w := enters_fn Tryd.func11 (by kernel_rfl) rfl
theorem en12 : ∀ args w, (Go.callFunc 12 args).run Tryd.prog w = .ok (.enter 12 args) w := enters_fn Tryd.func12 (by kernel_rfl) rfl
theorem en13 : ∀ args w, (Go.callFunc 13 args).run Tryd.prog w = .ok (.enter 13 args) w := enters_fn Tryd.func13 (by kernel_rfl) rfl
theorem en14 : ∀ args w, (Go.callFunc 14 args).run Tryd.prog w = .ok (.enter 14 args) w := enters_fn Tryd.func14 (by kernel_rfl) rfl
theorem en15 : ∀ args w, (Go.callFunc 15 args).run Tryd.prog w = .ok (.enter 15 args) w := enters_fn Tryd.func15 (by kernel_rfl) rfl
theorem en16 : ∀ args w, (Go.callFunc 16 args).run Tryd.prog w = .ok (.enter 16 args) w := enters_fn Tryd.func16 (by kernel_rfl) rfl
theorem en17 : ∀ args w, (Go.callFunc 17 args).run Tryd.prog w = .ok (.enter 17 args) w := enters_fn Tryd.func17 (by kernel_rfl) rfl
theorem en18 : ∀ args w, (Go.callFunc 18 args).run Tryd.prog w = .ok (.enter 18 args) w := enters_fn Tryd.func18 (by kernel_rfl) rfl
theorem en19 : ∀ args w, (Go.callFunc 19 args).run Tryd.prog w = .ok (.enter 19 args) w := enters_fn Tryd.func19 (by kernel_rfl) rfl
theorem en20 : ∀ args w, (Go.callFunc 20 args).run Tryd.prog w = .ok (.enter 20 args) w := enters_fn Tryd.func20 (by kernel_rfl) rfl
theorem en21 : ∀ args w, (Go.callFunc 21 args).run Tryd.prog w = .ok (.enter 21 args) w := enters_fn Tryd.func21 (by kernel_rfl) rfl
theorem en22 : ∀ args w, (Go.callFunc 22 args).run Tryd.prog w = .ok (.enter 22 args) w := enters_fn Tryd.func22 (by kernel_rfl) rfl
theorem en23 : ∀ args w, (Go.callFunc 23 args).run Tryd.prog w = .ok (.enter 23 args) w := enters_fn Tryd.func23 (by kernel_rfl) rfl
theorem en24 : ∀ args w, (Go.callFunc 24 args).run Tryd.prog w = .ok (.enter 24 args) w := enters_fn Tryd.func24 (by kernel_rfl) rfl
theorem en25 : ∀ args w, (Go.callFunc 25 args).run Tryd.prog w = .ok (.enter 25 args) w := enters_fn Tryd.func25 (by kernel_rfl) rfl
theorem en26 : ∀ args w, (Go.callFunc 26 args).run Tryd.prog w = .ok (.enter 26 args) w := enters_fn Tryd.func26 (by kernel_rfl) rfl
theorem en27 : ∀ args w, (Go.callFunc 27 args).run Tryd.prog w = .ok (.enter 27 args) w := enters_fn Tryd.func27 (by kernel_rfl) rfl
theorem en28 : ∀ args w, (Go.callFunc 28 args).run Tryd.prog w = .ok (.enter 28 args) w := enters_fn Tryd.func28 (by kernel_rfl) rfl
theorem en29 : ∀ args w, (Go.callFunc 29 args).run Tryd.prog w = .ok (.enter 29 args) w := enters_fn Tryd.func29 (by kernel_rfl) rfl
theorem en30 : ∀ args w, (Go.callFunc 30 args).run Tryd.prog w = .ok (.enter 30 args) w := enters_fn Tryd.func30 (by kernel_rfl) rfl
theorem en31 : ∀ args w, (Go.callFunc 31 args).run Tryd.prog w = .ok (.enter 31 args) w := enters_fn Tryd.func31 (by kernel_rfl) rfl
theorem en32 : ∀ args w, (Go.callFunc 32 args).run Tryd.prog w = .ok (.enter 32 args) w := enters_fn Tryd.func32 (by kernel_rfl) rfl
theorem en33 : ∀ args w, (Go.callFunc 33 args).run Tryd.prog w = .ok (.enter 33 args) w := enters_fn Tryd.func33 (by kernel_rfl) rfl
theorem en34 : ∀ args w, (Go.callFunc 34 args).run Tryd.prog w = .ok (.enter 34 args) w := enters_fn Tryd.func34 (by kernel_rfl) rfl
theorem en55 : ∀ args w, (Go.callFunc 55 args).run Tryd.prog w = .ok (.enter 55 args) w := enters_fn Tryd.func55 (by kernel_rfl) rfl
theorem mixedOk : Tryd.prog.follows .mixedOrders = true := by kernel_rfl
end Go.Proofs.YtghbdkndmmmgmaaDoor
