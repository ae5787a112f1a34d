/-
  What the program table says of each type.
-/
import Derived.Test.YtjpjpgeeeigbkaaDoorProg
import Derived.Test.YtjpjpgeeeigbkaaDoorY1
import Derived.KernelRfl
set_option linter.all false
namespace Go.Proofs.YtjpjpgeeeigbkaaDoor
open Go.En

instance iu0 : UT Tryd.prog 0 Tryd.t0.desc := ⟨Tryd.underlying0⟩
instance ii0 : TI Tryd.prog 0 (Value.tuple #[]) 1 0 := ⟨by kernel_rfl⟩
instance iu1 : UT Tryd.prog 1 Tryd.t1.desc := ⟨Tryd.underlying1⟩
instance ii1 : TI Tryd.prog 1 Value.nilFunc 1 8 := ⟨by kernel_rfl⟩
instance iu2 : UT Tryd.prog 2 (TypeDesc.int IntKind.i64) := ⟨Tryd.underlying2⟩
instance ii2 : TI Tryd.prog 2 (Value.int IntKind.i64 0) 1 8 := ⟨by kernel_rfl⟩
instance iu3 : UT Tryd.prog 3 (TypeDesc.int IntKind.i64) := ⟨Tryd.underlying3⟩
instance ii3 : TI Tryd.prog 3 (Value.int IntKind.i64 0) 1 8 := ⟨by kernel_rfl⟩
instance iu4 : UT Tryd.prog 4 (TypeDesc.bool) := ⟨Tryd.underlying4⟩
instance ii4 : TI Tryd.prog 4 (Value.bool false) 1 1 := ⟨by kernel_rfl⟩
instance iu5 : UT Tryd.prog 5 (TypeDesc.int IntKind.u8) := ⟨Tryd.underlying5⟩
instance ii5 : TI Tryd.prog 5 (Value.int IntKind.u8 0) 1 1 := ⟨by kernel_rfl⟩
instance iu6 : UT Tryd.prog 6 (TypeDesc.int IntKind.u8) := ⟨Tryd.underlying6⟩
instance ii6 : TI Tryd.prog 6 (Value.int IntKind.u8 0) 1 1 := ⟨by kernel_rfl⟩
instance iu7 : UT Tryd.prog 7 Tryd.t7.desc := ⟨Tryd.underlying7⟩
instance ii7 : TI Tryd.prog 7 (Value.agg #[Value.int IntKind.i64 0, Value.int IntKind.i64 0, Value.bool false, Value.int IntKind.u8 0]) 4 24 := ⟨by kernel_rfl⟩
instance ib7 : BT Tryd.prog 7 [(0, 1), (1, 1), (2, 1), (3, 1)] := ⟨⟨_, Tryd.underlying7, by kernel_rfl⟩⟩
instance is7_0 : SF Tryd.prog 7 0 0 2 := ⟨⟨_, _, Tryd.underlying7, rfl, rfl, rfl⟩⟩
instance is7_1 : SF Tryd.prog 7 1 1 3 := ⟨⟨_, _, Tryd.underlying7, rfl, rfl, rfl⟩⟩
instance is7_2 : SF Tryd.prog 7 2 2 4 := ⟨⟨_, _, Tryd.underlying7, rfl, rfl, rfl⟩⟩
instance is7_3 : SF Tryd.prog 7 3 3 6 := ⟨⟨_, _, Tryd.underlying7, rfl, rfl, rfl⟩⟩
instance iu8 : UT Tryd.prog 8 Tryd.t7.desc := ⟨Tryd.underlying8⟩
instance ii8 : TI Tryd.prog 8 (Value.agg #[Value.int IntKind.i64 0, Value.int IntKind.i64 0, Value.bool false, Value.int IntKind.u8 0]) 4 24 := ⟨by kernel_rfl⟩
instance ib8 : BT Tryd.prog 8 [(0, 1), (1, 1), (2, 1), (3, 1)] := ⟨⟨_, Tryd.underlying8, by kernel_rfl⟩⟩
instance is8_0 : SF Tryd.prog 8 0 0 2 := ⟨⟨_, _, Tryd.underlying8, rfl, rfl, rfl⟩⟩
instance is8_1 : SF Tryd.prog 8 1 1 3 := ⟨⟨_, _, Tryd.underlying8, rfl, rfl, rfl⟩⟩
instance is8_2 : SF Tryd.prog 8 2 2 4 := ⟨⟨_, _, Tryd.underlying8, rfl, rfl, rfl⟩⟩
instance is8_3 : SF Tryd.prog 8 3 3 6 := ⟨⟨_, _, Tryd.underlying8, rfl, rfl, rfl⟩⟩
instance iu9 : UT Tryd.prog 9 (TypeDesc.string) := ⟨Tryd.underlying9⟩
instance ii9 : TI Tryd.prog 9 (Value.string { data := #[] }) 1 16 := ⟨by kernel_rfl⟩
instance iu10 : UT Tryd.prog 10 (TypeDesc.string) := ⟨Tryd.underlying10⟩
instance ii10 : TI Tryd.prog 10 (Value.string { data := #[] }) 1 16 := ⟨by kernel_rfl⟩
instance iu11 : UT Tryd.prog 11 (TypeDesc.string) := ⟨Tryd.underlying11⟩
instance ii11 : TI Tryd.prog 11 (Value.string { data := #[] }) 1 16 := ⟨by kernel_rfl⟩
instance iu12 : UT Tryd.prog 12 (TypeDesc.int IntKind.u64) := ⟨Tryd.underlying12⟩
instance ii12 : TI Tryd.prog 12 (Value.int IntKind.u64 0) 1 8 := ⟨by kernel_rfl⟩
instance iu13 : UT Tryd.prog 13 Tryd.t13.desc := ⟨Tryd.underlying13⟩
instance ii13 : TI Tryd.prog 13 (Value.agg #[Value.string { data := #[] }, Value.int IntKind.u64 0]) 2 24 := ⟨by kernel_rfl⟩
instance ib13 : BT Tryd.prog 13 [(0, 1), (1, 1)] := ⟨⟨_, Tryd.underlying13, by kernel_rfl⟩⟩
instance is13_0 : SF Tryd.prog 13 0 0 9 := ⟨⟨_, _, Tryd.underlying13, rfl, rfl, rfl⟩⟩
instance is13_1 : SF Tryd.prog 13 1 1 12 := ⟨⟨_, _, Tryd.underlying13, rfl, rfl, rfl⟩⟩
instance iu14 : UT Tryd.prog 14 Tryd.t13.desc := ⟨Tryd.underlying14⟩
instance ii14 : TI Tryd.prog 14 (Value.agg #[Value.string { data := #[] }, Value.int IntKind.u64 0]) 2 24 := ⟨by kernel_rfl⟩
instance ib14 : BT Tryd.prog 14 [(0, 1), (1, 1)] := ⟨⟨_, Tryd.underlying14, by kernel_rfl⟩⟩
instance is14_0 : SF Tryd.prog 14 0 0 9 := ⟨⟨_, _, Tryd.underlying14, rfl, rfl, rfl⟩⟩
instance is14_1 : SF Tryd.prog 14 1 1 12 := ⟨⟨_, _, Tryd.underlying14, rfl, rfl, rfl⟩⟩
instance iu15 : UT Tryd.prog 15 (TypeDesc.pointer 122) := ⟨Tryd.underlying15⟩
instance ii15 : TI Tryd.prog 15 (Value.pointer none) 1 8 := ⟨by kernel_rfl⟩
instance iu16 : UT Tryd.prog 16 (TypeDesc.pointer 125) := ⟨Tryd.underlying16⟩
instance ii16 : TI Tryd.prog 16 (Value.pointer none) 1 8 := ⟨by kernel_rfl⟩
instance iu17 : UT Tryd.prog 17 (TypeDesc.pointer 135) := ⟨Tryd.underlying17⟩
instance ii17 : TI Tryd.prog 17 (Value.pointer none) 1 8 := ⟨by kernel_rfl⟩
instance iu18 : UT Tryd.prog 18 Tryd.t18.desc := ⟨Tryd.underlying18⟩
instance ii18 : TI Tryd.prog 18 (Value.agg #[Value.pointer none]) 1 8 := ⟨by kernel_rfl⟩
instance ib18 : BT Tryd.prog 18 [(0, 1)] := ⟨⟨_, Tryd.underlying18, by kernel_rfl⟩⟩
instance is18_0 : SF Tryd.prog 18 0 0 17 := ⟨⟨_, _, Tryd.underlying18, rfl, rfl, rfl⟩⟩
instance iu19 : UT Tryd.prog 19 Tryd.t18.desc := ⟨Tryd.underlying19⟩
instance ii19 : TI Tryd.prog 19 (Value.agg #[Value.pointer none]) 1 8 := ⟨by kernel_rfl⟩
instance ib19 : BT Tryd.prog 19 [(0, 1)] := ⟨⟨_, Tryd.underlying19, by kernel_rfl⟩⟩
instance is19_0 : SF Tryd.prog 19 0 0 17 := ⟨⟨_, _, Tryd.underlying19, rfl, rfl, rfl⟩⟩
instance iu20 : UT Tryd.prog 20 Tryd.t20.desc := ⟨Tryd.underlying20⟩
instance ii20 : TI Tryd.prog 20 Value.nilIface 1 16 := ⟨by kernel_rfl⟩
instance iu21 : UT Tryd.prog 21 (TypeDesc.int IntKind.i32) := ⟨Tryd.underlying21⟩
instance ii21 : TI Tryd.prog 21 (Value.int IntKind.i32 0) 1 4 := ⟨by kernel_rfl⟩
instance iu22 : UT Tryd.prog 22 (TypeDesc.slice 42) := ⟨Tryd.underlying22⟩
instance ii22 : TI Tryd.prog 22 (Value.slice none 0 0) 1 24 := ⟨by kernel_rfl⟩
instance iu23 : UT Tryd.prog 23 Tryd.t23.desc := ⟨Tryd.underlying23⟩
instance ii23 : TI Tryd.prog 23 (Value.agg #[Value.slice none 0 0]) 1 24 := ⟨by kernel_rfl⟩
instance ib23 : BT Tryd.prog 23 [(0, 1)] := ⟨⟨_, Tryd.underlying23, by kernel_rfl⟩⟩
instance is23_0 : SF Tryd.prog 23 0 0 22 := ⟨⟨_, _, Tryd.underlying23, rfl, rfl, rfl⟩⟩
instance iu24 : UT Tryd.prog 24 Tryd.t23.desc := ⟨Tryd.underlying24⟩
instance ii24 : TI Tryd.prog 24 (Value.agg #[Value.slice none 0 0]) 1 24 := ⟨by kernel_rfl⟩
instance ib24 : BT Tryd.prog 24 [(0, 1)] := ⟨⟨_, Tryd.underlying24, by kernel_rfl⟩⟩
instance is24_0 : SF Tryd.prog 24 0 0 22 := ⟨⟨_, _, Tryd.underlying24, rfl, rfl, rfl⟩⟩
instance iu25 : UT Tryd.prog 25 Tryd.t25.desc := ⟨Tryd.underlying25⟩
instance ii25 : TI Tryd.prog 25 Value.nilFunc 1 8 := ⟨by kernel_rfl⟩
instance iu26 : UT Tryd.prog 26 (TypeDesc.int IntKind.i64) := ⟨Tryd.underlying26⟩
instance ii26 : TI Tryd.prog 26 (Value.int IntKind.i64 0) 1 8 := ⟨by kernel_rfl⟩
instance iu27 : UT Tryd.prog 27 Tryd.t27.desc := ⟨Tryd.underlying27⟩
instance ii27 : TI Tryd.prog 27 Value.nilFunc 1 8 := ⟨by kernel_rfl⟩
instance iu28 : UT Tryd.prog 28 Tryd.t28.desc := ⟨Tryd.underlying28⟩
instance ii28 : TI Tryd.prog 28 Value.nilFunc 1 8 := ⟨by kernel_rfl⟩
instance iu29 : UT Tryd.prog 29 Tryd.t29.desc := ⟨Tryd.underlying29⟩
instance ii29 : TI Tryd.prog 29 Value.nilFunc 1 8 := ⟨by kernel_rfl⟩
instance iu30 : UT Tryd.prog 30 (TypeDesc.slice 3) := ⟨Tryd.underlying30⟩
instance ii30 : TI Tryd.prog 30 (Value.slice none 0 0) 1 24 := ⟨by kernel_rfl⟩
instance iu31 : UT Tryd.prog 31 Tryd.t31.desc := ⟨Tryd.underlying31⟩
instance ii31 : TI Tryd.prog 31 (Value.agg #[Value.int IntKind.i64 0, Value.string { data := #[] }, Value.int IntKind.i64 0, Value.int IntKind.i64 0, Value.slice none 0 0]) 5 64 := ⟨by kernel_rfl⟩
instance ib31 : BT Tryd.prog 31 [(0, 1), (1, 1), (2, 1), (3, 1), (4, 1)] := ⟨⟨_, Tryd.underlying31, by kernel_rfl⟩⟩
instance is31_0 : SF Tryd.prog 31 0 0 3 := ⟨⟨_, _, Tryd.underlying31, rfl, rfl, rfl⟩⟩
instance is31_1 : SF Tryd.prog 31 1 1 9 := ⟨⟨_, _, Tryd.underlying31, rfl, rfl, rfl⟩⟩
instance is31_2 : SF Tryd.prog 31 2 2 3 := ⟨⟨_, _, Tryd.underlying31, rfl, rfl, rfl⟩⟩
instance is31_3 : SF Tryd.prog 31 3 3 3 := ⟨⟨_, _, Tryd.underlying31, rfl, rfl, rfl⟩⟩
instance is31_4 : SF Tryd.prog 31 4 4 30 := ⟨⟨_, _, Tryd.underlying31, rfl, rfl, rfl⟩⟩
instance iu32 : UT Tryd.prog 32 Tryd.t31.desc := ⟨Tryd.underlying32⟩
instance ii32 : TI Tryd.prog 32 (Value.agg #[Value.int IntKind.i64 0, Value.string { data := #[] }, Value.int IntKind.i64 0, Value.int IntKind.i64 0, Value.slice none 0 0]) 5 64 := ⟨by kernel_rfl⟩
instance ib32 : BT Tryd.prog 32 [(0, 1), (1, 1), (2, 1), (3, 1), (4, 1)] := ⟨⟨_, Tryd.underlying32, by kernel_rfl⟩⟩
instance is32_0 : SF Tryd.prog 32 0 0 3 := ⟨⟨_, _, Tryd.underlying32, rfl, rfl, rfl⟩⟩
instance is32_1 : SF Tryd.prog 32 1 1 9 := ⟨⟨_, _, Tryd.underlying32, rfl, rfl, rfl⟩⟩
instance is32_2 : SF Tryd.prog 32 2 2 3 := ⟨⟨_, _, Tryd.underlying32, rfl, rfl, rfl⟩⟩
instance is32_3 : SF Tryd.prog 32 3 3 3 := ⟨⟨_, _, Tryd.underlying32, rfl, rfl, rfl⟩⟩
instance is32_4 : SF Tryd.prog 32 4 4 30 := ⟨⟨_, _, Tryd.underlying32, rfl, rfl, rfl⟩⟩
instance iu33 : UT Tryd.prog 33 (TypeDesc.slice 53) := ⟨Tryd.underlying33⟩
instance ii33 : TI Tryd.prog 33 (Value.slice none 0 0) 1 24 := ⟨by kernel_rfl⟩
instance iu34 : UT Tryd.prog 34 (TypeDesc.slice 57) := ⟨Tryd.underlying34⟩
instance ii34 : TI Tryd.prog 34 (Value.slice none 0 0) 1 24 := ⟨by kernel_rfl⟩
instance iu35 : UT Tryd.prog 35 Tryd.t35.desc := ⟨Tryd.underlying35⟩
instance ii35 : TI Tryd.prog 35 (Value.agg #[Value.int IntKind.i64 0, Value.string { data := #[] }, Value.int IntKind.i64 0, Value.int IntKind.i64 0, Value.slice none 0 0, Value.slice none 0 0, Value.slice none 0 0]) 7 112 := ⟨by kernel_rfl⟩
instance ib35 : BT Tryd.prog 35 [(0, 5), (5, 1), (6, 1)] := ⟨⟨_, Tryd.underlying35, by kernel_rfl⟩⟩
instance is35_0 : SF Tryd.prog 35 0 0 32 := ⟨⟨_, _, Tryd.underlying35, rfl, rfl, rfl⟩⟩
instance is35_1 : SF Tryd.prog 35 1 5 33 := ⟨⟨_, _, Tryd.underlying35, rfl, rfl, rfl⟩⟩
instance is35_2 : SF Tryd.prog 35 2 6 34 := ⟨⟨_, _, Tryd.underlying35, rfl, rfl, rfl⟩⟩
instance iu36 : UT Tryd.prog 36 Tryd.t35.desc := ⟨Tryd.underlying36⟩
instance ii36 : TI Tryd.prog 36 (Value.agg #[Value.int IntKind.i64 0, Value.string { data := #[] }, Value.int IntKind.i64 0, Value.int IntKind.i64 0, Value.slice none 0 0, Value.slice none 0 0, Value.slice none 0 0]) 7 112 := ⟨by kernel_rfl⟩
instance ib36 : BT Tryd.prog 36 [(0, 5), (5, 1), (6, 1)] := ⟨⟨_, Tryd.underlying36, by kernel_rfl⟩⟩
instance is36_0 : SF Tryd.prog 36 0 0 32 := ⟨⟨_, _, Tryd.underlying36, rfl, rfl, rfl⟩⟩
instance is36_1 : SF Tryd.prog 36 1 5 33 := ⟨⟨_, _, Tryd.underlying36, rfl, rfl, rfl⟩⟩
instance is36_2 : SF Tryd.prog 36 2 6 34 := ⟨⟨_, _, Tryd.underlying36, rfl, rfl, rfl⟩⟩
instance iu37 : UT Tryd.prog 37 Tryd.t37.desc := ⟨Tryd.underlying37⟩
instance ii37 : TI Tryd.prog 37 Value.nilFunc 1 8 := ⟨by kernel_rfl⟩
instance iu38 : UT Tryd.prog 38 Tryd.t38.desc := ⟨Tryd.underlying38⟩
instance ii38 : TI Tryd.prog 38 Value.nilFunc 1 8 := ⟨by kernel_rfl⟩
instance iu39 : UT Tryd.prog 39 Tryd.t39.desc := ⟨Tryd.underlying39⟩
instance ii39 : TI Tryd.prog 39 Value.nilFunc 1 8 := ⟨by kernel_rfl⟩
instance iu40 : UT Tryd.prog 40 Tryd.t40.desc := ⟨Tryd.underlying40⟩
instance ii40 : TI Tryd.prog 40 Value.nilFunc 1 8 := ⟨by kernel_rfl⟩
instance iu41 : UT Tryd.prog 41 Tryd.t41.desc := ⟨Tryd.underlying41⟩
instance ii41 : TI Tryd.prog 41 (Value.agg #[Value.int IntKind.i64 0, Value.string { data := #[] }, Value.slice none 0 0]) 3 48 := ⟨by kernel_rfl⟩
instance ib41 : BT Tryd.prog 41 [(0, 1), (1, 1), (2, 1)] := ⟨⟨_, Tryd.underlying41, by kernel_rfl⟩⟩
instance is41_0 : SF Tryd.prog 41 0 0 3 := ⟨⟨_, _, Tryd.underlying41, rfl, rfl, rfl⟩⟩
instance is41_1 : SF Tryd.prog 41 1 1 9 := ⟨⟨_, _, Tryd.underlying41, rfl, rfl, rfl⟩⟩
instance is41_2 : SF Tryd.prog 41 2 2 30 := ⟨⟨_, _, Tryd.underlying41, rfl, rfl, rfl⟩⟩
instance iu42 : UT Tryd.prog 42 Tryd.t41.desc := ⟨Tryd.underlying42⟩
instance ii42 : TI Tryd.prog 42 (Value.agg #[Value.int IntKind.i64 0, Value.string { data := #[] }, Value.slice none 0 0]) 3 48 := ⟨by kernel_rfl⟩
instance ib42 : BT Tryd.prog 42 [(0, 1), (1, 1), (2, 1)] := ⟨⟨_, Tryd.underlying42, by kernel_rfl⟩⟩
instance is42_0 : SF Tryd.prog 42 0 0 3 := ⟨⟨_, _, Tryd.underlying42, rfl, rfl, rfl⟩⟩
instance is42_1 : SF Tryd.prog 42 1 1 9 := ⟨⟨_, _, Tryd.underlying42, rfl, rfl, rfl⟩⟩
instance is42_2 : SF Tryd.prog 42 2 2 30 := ⟨⟨_, _, Tryd.underlying42, rfl, rfl, rfl⟩⟩
instance iu43 : UT Tryd.prog 43 Tryd.t43.desc := ⟨Tryd.underlying43⟩
instance ii43 : TI Tryd.prog 43 Value.nilFunc 1 8 := ⟨by kernel_rfl⟩
instance iu44 : UT Tryd.prog 44 Tryd.t44.desc := ⟨Tryd.underlying44⟩
instance ii44 : TI Tryd.prog 44 Value.nilFunc 1 8 := ⟨by kernel_rfl⟩
instance iu45 : UT Tryd.prog 45 Tryd.t45.desc := ⟨Tryd.underlying45⟩
instance ii45 : TI Tryd.prog 45 Value.nilFunc 1 8 := ⟨by kernel_rfl⟩
instance iu46 : UT Tryd.prog 46 (TypeDesc.slice 9) := ⟨Tryd.underlying46⟩
instance ii46 : TI Tryd.prog 46 (Value.slice none 0 0) 1 24 := ⟨by kernel_rfl⟩
instance iu47 : UT Tryd.prog 47 Tryd.t47.desc := ⟨Tryd.underlying47⟩
instance ii47 : TI Tryd.prog 47 Value.nilFunc 1 8 := ⟨by kernel_rfl⟩
instance iu48 : UT Tryd.prog 48 Tryd.t48.desc := ⟨Tryd.underlying48⟩
instance ii48 : TI Tryd.prog 48 Value.nilFunc 1 8 := ⟨by kernel_rfl⟩
instance iu49 : UT Tryd.prog 49 Tryd.t49.desc := ⟨Tryd.underlying49⟩
instance ii49 : TI Tryd.prog 49 Value.nilFunc 1 8 := ⟨by kernel_rfl⟩
instance iu50 : UT Tryd.prog 50 Tryd.t50.desc := ⟨Tryd.underlying50⟩
instance ii50 : TI Tryd.prog 50 Value.nilFunc 1 8 := ⟨by kernel_rfl⟩
instance iu51 : UT Tryd.prog 51 Tryd.t51.desc := ⟨Tryd.underlying51⟩
instance ii51 : TI Tryd.prog 51 Value.nilFunc 1 8 := ⟨by kernel_rfl⟩
instance iu52 : UT Tryd.prog 52 Tryd.t52.desc := ⟨Tryd.underlying52⟩
instance ii52 : TI Tryd.prog 52 (Value.agg #[Value.string { data := #[] }, Value.int IntKind.i64 0, Value.int IntKind.i64 0, Value.int IntKind.i64 0]) 4 40 := ⟨by kernel_rfl⟩
instance ib52 : BT Tryd.prog 52 [(0, 1), (1, 1), (2, 1), (3, 1)] := ⟨⟨_, Tryd.underlying52, by kernel_rfl⟩⟩
instance is52_0 : SF Tryd.prog 52 0 0 9 := ⟨⟨_, _, Tryd.underlying52, rfl, rfl, rfl⟩⟩
instance is52_1 : SF Tryd.prog 52 1 1 3 := ⟨⟨_, _, Tryd.underlying52, rfl, rfl, rfl⟩⟩
instance is52_2 : SF Tryd.prog 52 2 2 3 := ⟨⟨_, _, Tryd.underlying52, rfl, rfl, rfl⟩⟩
instance is52_3 : SF Tryd.prog 52 3 3 3 := ⟨⟨_, _, Tryd.underlying52, rfl, rfl, rfl⟩⟩
instance iu53 : UT Tryd.prog 53 Tryd.t52.desc := ⟨Tryd.underlying53⟩
instance ii53 : TI Tryd.prog 53 (Value.agg #[Value.string { data := #[] }, Value.int IntKind.i64 0, Value.int IntKind.i64 0, Value.int IntKind.i64 0]) 4 40 := ⟨by kernel_rfl⟩
instance ib53 : BT Tryd.prog 53 [(0, 1), (1, 1), (2, 1), (3, 1)] := ⟨⟨_, Tryd.underlying53, by kernel_rfl⟩⟩
instance is53_0 : SF Tryd.prog 53 0 0 9 := ⟨⟨_, _, Tryd.underlying53, rfl, rfl, rfl⟩⟩
instance is53_1 : SF Tryd.prog 53 1 1 3 := ⟨⟨_, _, Tryd.underlying53, rfl, rfl, rfl⟩⟩
instance is53_2 : SF Tryd.prog 53 2 2 3 := ⟨⟨_, _, Tryd.underlying53, rfl, rfl, rfl⟩⟩
instance is53_3 : SF Tryd.prog 53 3 3 3 := ⟨⟨_, _, Tryd.underlying53, rfl, rfl, rfl⟩⟩
instance iu54 : UT Tryd.prog 54 Tryd.t54.desc := ⟨Tryd.underlying54⟩
instance ii54 : TI Tryd.prog 54 (Value.agg #[Value.int IntKind.i64 0, Value.int IntKind.i64 0]) 2 16 := ⟨by kernel_rfl⟩
instance ib54 : BT Tryd.prog 54 [(0, 1), (1, 1)] := ⟨⟨_, Tryd.underlying54, by kernel_rfl⟩⟩
instance is54_0 : SF Tryd.prog 54 0 0 3 := ⟨⟨_, _, Tryd.underlying54, rfl, rfl, rfl⟩⟩
instance is54_1 : SF Tryd.prog 54 1 1 3 := ⟨⟨_, _, Tryd.underlying54, rfl, rfl, rfl⟩⟩
instance iu55 : UT Tryd.prog 55 Tryd.t54.desc := ⟨Tryd.underlying55⟩
instance ii55 : TI Tryd.prog 55 (Value.agg #[Value.int IntKind.i64 0, Value.int IntKind.i64 0]) 2 16 := ⟨by kernel_rfl⟩
instance ib55 : BT Tryd.prog 55 [(0, 1), (1, 1)] := ⟨⟨_, Tryd.underlying55, by kernel_rfl⟩⟩
instance is55_0 : SF Tryd.prog 55 0 0 3 := ⟨⟨_, _, Tryd.underlying55, rfl, rfl, rfl⟩⟩
instance is55_1 : SF Tryd.prog 55 1 1 3 := ⟨⟨_, _, Tryd.underlying55, rfl, rfl, rfl⟩⟩
instance iu56 : UT Tryd.prog 56 Tryd.t56.desc := ⟨Tryd.underlying56⟩
instance ii56 : TI Tryd.prog 56 (Value.agg #[Value.int IntKind.i64 0, Value.int IntKind.i64 0, Value.int IntKind.i64 0, Value.int IntKind.i64 0, Value.int IntKind.i64 0, Value.int IntKind.i64 0, Value.string { data := #[] }]) 7 64 := ⟨by kernel_rfl⟩
instance ib56 : BT Tryd.prog 56 [(0, 1), (1, 1), (2, 1), (3, 2), (5, 1), (6, 1)] := ⟨⟨_, Tryd.underlying56, by kernel_rfl⟩⟩
instance is56_0 : SF Tryd.prog 56 0 0 3 := ⟨⟨_, _, Tryd.underlying56, rfl, rfl, rfl⟩⟩
instance is56_1 : SF Tryd.prog 56 1 1 3 := ⟨⟨_, _, Tryd.underlying56, rfl, rfl, rfl⟩⟩
instance is56_2 : SF Tryd.prog 56 2 2 3 := ⟨⟨_, _, Tryd.underlying56, rfl, rfl, rfl⟩⟩
instance is56_3 : SF Tryd.prog 56 3 3 55 := ⟨⟨_, _, Tryd.underlying56, rfl, rfl, rfl⟩⟩
instance is56_4 : SF Tryd.prog 56 4 5 3 := ⟨⟨_, _, Tryd.underlying56, rfl, rfl, rfl⟩⟩
instance is56_5 : SF Tryd.prog 56 5 6 9 := ⟨⟨_, _, Tryd.underlying56, rfl, rfl, rfl⟩⟩
instance iu57 : UT Tryd.prog 57 Tryd.t56.desc := ⟨Tryd.underlying57⟩
instance ii57 : TI Tryd.prog 57 (Value.agg #[Value.int IntKind.i64 0, Value.int IntKind.i64 0, Value.int IntKind.i64 0, Value.int IntKind.i64 0, Value.int IntKind.i64 0, Value.int IntKind.i64 0, Value.string { data := #[] }]) 7 64 := ⟨by kernel_rfl⟩
instance ib57 : BT Tryd.prog 57 [(0, 1), (1, 1), (2, 1), (3, 2), (5, 1), (6, 1)] := ⟨⟨_, Tryd.underlying57, by kernel_rfl⟩⟩
instance is57_0 : SF Tryd.prog 57 0 0 3 := ⟨⟨_, _, Tryd.underlying57, rfl, rfl, rfl⟩⟩
instance is57_1 : SF Tryd.prog 57 1 1 3 := ⟨⟨_, _, Tryd.underlying57, rfl, rfl, rfl⟩⟩
instance is57_2 : SF Tryd.prog 57 2 2 3 := ⟨⟨_, _, Tryd.underlying57, rfl, rfl, rfl⟩⟩
instance is57_3 : SF Tryd.prog 57 3 3 55 := ⟨⟨_, _, Tryd.underlying57, rfl, rfl, rfl⟩⟩
instance is57_4 : SF Tryd.prog 57 4 5 3 := ⟨⟨_, _, Tryd.underlying57, rfl, rfl, rfl⟩⟩
instance is57_5 : SF Tryd.prog 57 5 6 9 := ⟨⟨_, _, Tryd.underlying57, rfl, rfl, rfl⟩⟩
instance iu58 : UT Tryd.prog 58 (TypeDesc.slice 60) := ⟨Tryd.underlying58⟩
instance ii58 : TI Tryd.prog 58 (Value.slice none 0 0) 1 24 := ⟨by kernel_rfl⟩
instance iu59 : UT Tryd.prog 59 Tryd.t59.desc := ⟨Tryd.underlying59⟩
instance ii59 : TI Tryd.prog 59 (Value.agg #[Value.bool false, Value.int IntKind.i64 0, Value.string { data := #[] }, Value.int IntKind.i64 0]) 4 40 := ⟨by kernel_rfl⟩
instance ib59 : BT Tryd.prog 59 [(0, 1), (1, 1), (2, 1), (3, 1)] := ⟨⟨_, Tryd.underlying59, by kernel_rfl⟩⟩
instance is59_0 : SF Tryd.prog 59 0 0 4 := ⟨⟨_, _, Tryd.underlying59, rfl, rfl, rfl⟩⟩
instance is59_1 : SF Tryd.prog 59 1 1 3 := ⟨⟨_, _, Tryd.underlying59, rfl, rfl, rfl⟩⟩
instance is59_2 : SF Tryd.prog 59 2 2 9 := ⟨⟨_, _, Tryd.underlying59, rfl, rfl, rfl⟩⟩
instance is59_3 : SF Tryd.prog 59 3 3 3 := ⟨⟨_, _, Tryd.underlying59, rfl, rfl, rfl⟩⟩
instance iu60 : UT Tryd.prog 60 Tryd.t59.desc := ⟨Tryd.underlying60⟩
instance ii60 : TI Tryd.prog 60 (Value.agg #[Value.bool false, Value.int IntKind.i64 0, Value.string { data := #[] }, Value.int IntKind.i64 0]) 4 40 := ⟨by kernel_rfl⟩
instance ib60 : BT Tryd.prog 60 [(0, 1), (1, 1), (2, 1), (3, 1)] := ⟨⟨_, Tryd.underlying60, by kernel_rfl⟩⟩
instance is60_0 : SF Tryd.prog 60 0 0 4 := ⟨⟨_, _, Tryd.underlying60, rfl, rfl, rfl⟩⟩
instance is60_1 : SF Tryd.prog 60 1 1 3 := ⟨⟨_, _, Tryd.underlying60, rfl, rfl, rfl⟩⟩
instance is60_2 : SF Tryd.prog 60 2 2 9 := ⟨⟨_, _, Tryd.underlying60, rfl, rfl, rfl⟩⟩
instance is60_3 : SF Tryd.prog 60 3 3 3 := ⟨⟨_, _, Tryd.underlying60, rfl, rfl, rfl⟩⟩
instance iu61 : UT Tryd.prog 61 Tryd.t61.desc := ⟨Tryd.underlying61⟩
instance ii61 : TI Tryd.prog 61 Value.nilFunc 1 8 := ⟨by kernel_rfl⟩
instance iu62 : UT Tryd.prog 62 Tryd.t62.desc := ⟨Tryd.underlying62⟩
instance ii62 : TI Tryd.prog 62 Value.nilFunc 1 8 := ⟨by kernel_rfl⟩
instance iu63 : UT Tryd.prog 63 Tryd.t63.desc := ⟨Tryd.underlying63⟩
instance ii63 : TI Tryd.prog 63 Value.nilFunc 1 8 := ⟨by kernel_rfl⟩
instance iu64 : UT Tryd.prog 64 Tryd.t64.desc := ⟨Tryd.underlying64⟩
instance ii64 : TI Tryd.prog 64 Value.nilFunc 1 8 := ⟨by kernel_rfl⟩
instance iu65 : UT Tryd.prog 65 Tryd.t65.desc := ⟨Tryd.underlying65⟩
instance ii65 : TI Tryd.prog 65 Value.nilFunc 1 8 := ⟨by kernel_rfl⟩
instance iu66 : UT Tryd.prog 66 Tryd.t66.desc := ⟨Tryd.underlying66⟩
instance ii66 : TI Tryd.prog 66 Value.nilFunc 1 8 := ⟨by kernel_rfl⟩
instance iu67 : UT Tryd.prog 67 Tryd.t67.desc := ⟨Tryd.underlying67⟩
instance ii67 : TI Tryd.prog 67 Value.nilFunc 1 8 := ⟨by kernel_rfl⟩
instance iu68 : UT Tryd.prog 68 Tryd.t68.desc := ⟨Tryd.underlying68⟩
instance ii68 : TI Tryd.prog 68 Value.nilFunc 1 8 := ⟨by kernel_rfl⟩
instance iu69 : UT Tryd.prog 69 Tryd.t69.desc := ⟨Tryd.underlying69⟩
instance ii69 : TI Tryd.prog 69 (Value.tuple #[Value.int IntKind.i64 0, Value.bool false]) 1 0 := ⟨by kernel_rfl⟩
instance iu70 : UT Tryd.prog 70 Tryd.t70.desc := ⟨Tryd.underlying70⟩
instance ii70 : TI Tryd.prog 70 Value.nilFunc 1 8 := ⟨by kernel_rfl⟩
instance iu71 : UT Tryd.prog 71 Tryd.t71.desc := ⟨Tryd.underlying71⟩
instance ii71 : TI Tryd.prog 71 Value.nilFunc 1 8 := ⟨by kernel_rfl⟩
instance iu72 : UT Tryd.prog 72 Tryd.t72.desc := ⟨Tryd.underlying72⟩
instance ii72 : TI Tryd.prog 72 Value.nilFunc 1 8 := ⟨by kernel_rfl⟩
instance iu73 : UT Tryd.prog 73 Tryd.t73.desc := ⟨Tryd.underlying73⟩
instance ii73 : TI Tryd.prog 73 Value.nilFunc 1 8 := ⟨by kernel_rfl⟩
instance iu74 : UT Tryd.prog 74 Tryd.t74.desc := ⟨Tryd.underlying74⟩
instance ii74 : TI Tryd.prog 74 Value.nilFunc 1 8 := ⟨by kernel_rfl⟩
instance iu75 : UT Tryd.prog 75 Tryd.t75.desc := ⟨Tryd.underlying75⟩
instance ii75 : TI Tryd.prog 75 Value.nilFunc 1 8 := ⟨by kernel_rfl⟩
instance iu76 : UT Tryd.prog 76 Tryd.t76.desc := ⟨Tryd.underlying76⟩
instance ii76 : TI Tryd.prog 76 Value.nilFunc 1 8 := ⟨by kernel_rfl⟩
instance iu77 : UT Tryd.prog 77 Tryd.t77.desc := ⟨Tryd.underlying77⟩
instance ii77 : TI Tryd.prog 77 Value.nilFunc 1 8 := ⟨by kernel_rfl⟩
instance iu78 : UT Tryd.prog 78 Tryd.t78.desc := ⟨Tryd.underlying78⟩
instance ii78 : TI Tryd.prog 78 (Value.tuple #[Value.slice none 0 0, Value.bool false]) 1 0 := ⟨by kernel_rfl⟩
instance iu79 : UT Tryd.prog 79 Tryd.t79.desc := ⟨Tryd.underlying79⟩
instance ii79 : TI Tryd.prog 79 Value.nilFunc 1 8 := ⟨by kernel_rfl⟩
instance iu80 : UT Tryd.prog 80 (TypeDesc.slice 21) := ⟨Tryd.underlying80⟩
instance ii80 : TI Tryd.prog 80 (Value.slice none 0 0) 1 24 := ⟨by kernel_rfl⟩
instance iu81 : UT Tryd.prog 81 (TypeDesc.slice 4) := ⟨Tryd.underlying81⟩
instance ii81 : TI Tryd.prog 81 (Value.slice none 0 0) 1 24 := ⟨by kernel_rfl⟩
instance iu82 : UT Tryd.prog 82 (TypeDesc.slice 86) := ⟨Tryd.underlying82⟩
instance ii82 : TI Tryd.prog 82 (Value.slice none 0 0) 1 24 := ⟨by kernel_rfl⟩
instance iu83 : UT Tryd.prog 83 Tryd.t83.desc := ⟨Tryd.underlying83⟩
instance ii83 : TI Tryd.prog 83 (Value.tuple #[Value.slice none 0 0, Value.bool false]) 1 0 := ⟨by kernel_rfl⟩
instance iu84 : UT Tryd.prog 84 Tryd.t84.desc := ⟨Tryd.underlying84⟩
instance ii84 : TI Tryd.prog 84 Value.nilFunc 1 8 := ⟨by kernel_rfl⟩
instance iu85 : UT Tryd.prog 85 Tryd.t85.desc := ⟨Tryd.underlying85⟩
instance ii85 : TI Tryd.prog 85 (Value.agg #[Value.int IntKind.i64 0, Value.int IntKind.i32 0]) 2 16 := ⟨by kernel_rfl⟩
instance ib85 : BT Tryd.prog 85 [(0, 1), (1, 1)] := ⟨⟨_, Tryd.underlying85, by kernel_rfl⟩⟩
instance is85_0 : SF Tryd.prog 85 0 0 3 := ⟨⟨_, _, Tryd.underlying85, rfl, rfl, rfl⟩⟩
instance is85_1 : SF Tryd.prog 85 1 1 21 := ⟨⟨_, _, Tryd.underlying85, rfl, rfl, rfl⟩⟩
instance iu86 : UT Tryd.prog 86 Tryd.t85.desc := ⟨Tryd.underlying86⟩
instance ii86 : TI Tryd.prog 86 (Value.agg #[Value.int IntKind.i64 0, Value.int IntKind.i32 0]) 2 16 := ⟨by kernel_rfl⟩
instance ib86 : BT Tryd.prog 86 [(0, 1), (1, 1)] := ⟨⟨_, Tryd.underlying86, by kernel_rfl⟩⟩
instance is86_0 : SF Tryd.prog 86 0 0 3 := ⟨⟨_, _, Tryd.underlying86, rfl, rfl, rfl⟩⟩
instance is86_1 : SF Tryd.prog 86 1 1 21 := ⟨⟨_, _, Tryd.underlying86, rfl, rfl, rfl⟩⟩
instance iu87 : UT Tryd.prog 87 Tryd.t87.desc := ⟨Tryd.underlying87⟩
instance ii87 : TI Tryd.prog 87 (Value.tuple #[Value.slice none 0 0, Value.int IntKind.i64 0]) 1 0 := ⟨by kernel_rfl⟩
instance iu88 : UT Tryd.prog 88 Tryd.t88.desc := ⟨Tryd.underlying88⟩
instance ii88 : TI Tryd.prog 88 Value.nilFunc 1 8 := ⟨by kernel_rfl⟩
instance iu89 : UT Tryd.prog 89 Tryd.t89.desc := ⟨Tryd.underlying89⟩
instance ii89 : TI Tryd.prog 89 Value.nilFunc 1 8 := ⟨by kernel_rfl⟩
instance iu90 : UT Tryd.prog 90 Tryd.t90.desc := ⟨Tryd.underlying90⟩
instance ii90 : TI Tryd.prog 90 Value.nilFunc 1 8 := ⟨by kernel_rfl⟩
instance iu91 : UT Tryd.prog 91 Tryd.t91.desc := ⟨Tryd.underlying91⟩
instance ii91 : TI Tryd.prog 91 Value.nilFunc 1 8 := ⟨by kernel_rfl⟩
instance iu92 : UT Tryd.prog 92 Tryd.t92.desc := ⟨Tryd.underlying92⟩
instance ii92 : TI Tryd.prog 92 Value.nilFunc 1 8 := ⟨by kernel_rfl⟩
instance iu93 : UT Tryd.prog 93 Tryd.t93.desc := ⟨Tryd.underlying93⟩
instance ii93 : TI Tryd.prog 93 Value.nilFunc 1 8 := ⟨by kernel_rfl⟩
instance iu94 : UT Tryd.prog 94 Tryd.t94.desc := ⟨Tryd.underlying94⟩
instance ii94 : TI Tryd.prog 94 (Value.tuple #[Value.agg #[Value.int IntKind.i64 0, Value.int IntKind.i64 0, Value.int IntKind.i64 0, Value.int IntKind.i64 0, Value.int IntKind.i64 0, Value.int IntKind.i64 0, Value.string { data := #[] }], Value.bool false]) 1 0 := ⟨by kernel_rfl⟩
instance iu95 : UT Tryd.prog 95 Tryd.t95.desc := ⟨Tryd.underlying95⟩
instance ii95 : TI Tryd.prog 95 Value.nilFunc 1 8 := ⟨by kernel_rfl⟩
instance iu96 : UT Tryd.prog 96 Tryd.t96.desc := ⟨Tryd.underlying96⟩
instance ii96 : TI Tryd.prog 96 Value.nilFunc 1 8 := ⟨by kernel_rfl⟩
instance iu97 : UT Tryd.prog 97 (TypeDesc.slice 55) := ⟨Tryd.underlying97⟩
instance ii97 : TI Tryd.prog 97 (Value.slice none 0 0) 1 24 := ⟨by kernel_rfl⟩
instance iu98 : UT Tryd.prog 98 Tryd.t98.desc := ⟨Tryd.underlying98⟩
instance ii98 : TI Tryd.prog 98 Value.nilFunc 1 8 := ⟨by kernel_rfl⟩
instance iu99 : UT Tryd.prog 99 Tryd.t99.desc := ⟨Tryd.underlying99⟩
instance ii99 : TI Tryd.prog 99 Value.nilFunc 1 8 := ⟨by kernel_rfl⟩
instance iu100 : UT Tryd.prog 100 Tryd.t100.desc := ⟨Tryd.underlying100⟩
instance ii100 : TI Tryd.prog 100 Value.nilFunc 1 8 := ⟨by kernel_rfl⟩
instance iu101 : UT Tryd.prog 101 Tryd.t100.desc := ⟨Tryd.underlying101⟩
instance ii101 : TI Tryd.prog 101 Value.nilFunc 1 8 := ⟨by kernel_rfl⟩
instance iu102 : UT Tryd.prog 102 Tryd.t102.desc := ⟨Tryd.underlying102⟩
instance ii102 : TI Tryd.prog 102 Value.nilFunc 1 8 := ⟨by kernel_rfl⟩
instance iu103 : UT Tryd.prog 103 Tryd.t103.desc := ⟨Tryd.underlying103⟩
instance ii103 : TI Tryd.prog 103 (Value.tuple #[Value.int IntKind.i64 0, Value.int IntKind.i64 0]) 1 0 := ⟨by kernel_rfl⟩
instance iu104 : UT Tryd.prog 104 Tryd.t104.desc := ⟨Tryd.underlying104⟩
instance ii104 : TI Tryd.prog 104 Value.nilFunc 1 8 := ⟨by kernel_rfl⟩
instance iu105 : UT Tryd.prog 105 Tryd.t105.desc := ⟨Tryd.underlying105⟩
instance ii105 : TI Tryd.prog 105 Value.nilFunc 1 8 := ⟨by kernel_rfl⟩
instance iu106 : UT Tryd.prog 106 Tryd.t106.desc := ⟨Tryd.underlying106⟩
instance ii106 : TI Tryd.prog 106 Value.nilFunc 1 8 := ⟨by kernel_rfl⟩
instance iu107 : UT Tryd.prog 107 Tryd.t107.desc := ⟨Tryd.underlying107⟩
instance ii107 : TI Tryd.prog 107 Value.nilFunc 1 8 := ⟨by kernel_rfl⟩
instance iu108 : UT Tryd.prog 108 Tryd.t108.desc := ⟨Tryd.underlying108⟩
instance ii108 : TI Tryd.prog 108 Value.nilFunc 1 8 := ⟨by kernel_rfl⟩
instance iu109 : UT Tryd.prog 109 (TypeDesc.array 256 5) := ⟨Tryd.underlying109⟩
instance ii109 : TI Tryd.prog 109 (Value.agg (([Value.int IntKind.u8 0, Value.int IntKind.u8 0, Value.int IntKind.u8 0, Value.int IntKind.u8 0, Value.int IntKind.u8 0, Value.int IntKind.u8 0, Value.int IntKind.u8 0, Value.int IntKind.u8 0, Value.int IntKind.u8 0, Value.int IntKind.u8 0, Value.int IntKind.u8 0, Value.int IntKind.u8 0, Value.int IntKind.u8 0, Value.int IntKind.u8 0, Value.int IntKind.u8 0, Value.int IntKind.u8 0, Value.int IntKind.u8 0, Value.int IntKind.u8 0, Value.int IntKind.u8 0, Value.int IntKind.u8 0, Value.int IntKind.u8 0, Value.int IntKind.u8 0, Value.int IntKind.u8 0, Value.int IntKind.u8 0, Value.int IntKind.u8 0, Value.int IntKind.u8 0, Value.int IntKind.u8 0, Value.int IntKind.u8 0, Value.int IntKind.u8 0, Value.int IntKind.u8 0, Value.int IntKind.u8 0, Value.int IntKind.u8 0, Value.int IntKind.u8 0, Value.int IntKind.u8 0, Value.int IntKind.u8 0, Value.int IntKind.u8 0, Value.int IntKind.u8 0, Value.int IntKind.u8 0, Value.int IntKind.u8 0, Value.int IntKind.u8 0, Value.int IntKind.u8 0, Value.int IntKind.u8 0, Value.int IntKind.u8 0, Value.int IntKind.u8 0, Value.int IntKind.u8 0, Value.int IntKind.u8 0, Value.int IntKind.u8 0, Value.int IntKind.u8 0, Value.int IntKind.u8 0, Value.int IntKind.u8 0, Value.int IntKind.u8 0, Value.int IntKind.u8 0, Value.int IntKind.u8 0, Value.int IntKind.u8 0, Value.int IntKind.u8 0, Value.int IntKind.u8 0, Value.int IntKind.u8 0, Value.int IntKind.u8 0, Value.int IntKind.u8 0, Value.int IntKind.u8 0, Value.int IntKind.u8 0, Value.int IntKind.u8 0, Value.int IntKind.u8 0, Value.int IntKind.u8 0].append [Value.int IntKind.u8 0, Value.int IntKind.u8 0, Value.int IntKind.u8 0, Value.int IntKind.u8 0, Value.int IntKind.u8 0, Value.int IntKind.u8 0, Value.int IntKind.u8 0, Value.int IntKind.u8 0, Value.int IntKind.u8 0, Value.int IntKind.u8 0, Value.int IntKind.u8 0, Value.int IntKind.u8 0, Value.int IntKind.u8 0, Value.int IntKind.u8 0, Value.int IntKind.u8 0, Value.int IntKind.u8 0, Value.int IntKind.u8 0, Value.int IntKind.u8 0, Value.int IntKind.u8 0, Value.int IntKind.u8 0, Value.int IntKind.u8 0, Value.int IntKind.u8 0, Value.int IntKind.u8 0, Value.int IntKind.u8 0, Value.int IntKind.u8 0, Value.int IntKind.u8 0, Value.int IntKind.u8 0, Value.int IntKind.u8 0, Value.int IntKind.u8 0, Value.int IntKind.u8 0, Value.int IntKind.u8 0, Value.int IntKind.u8 0, Value.int IntKind.u8 0, Value.int IntKind.u8 0, Value.int IntKind.u8 0, Value.int IntKind.u8 0, Value.int IntKind.u8 0, Value.int IntKind.u8 0, Value.int IntKind.u8 0, Value.int IntKind.u8 0, Value.int IntKind.u8 0, Value.int IntKind.u8 0, Value.int IntKind.u8 0, Value.int IntKind.u8 0, Value.int IntKind.u8 0, Value.int IntKind.u8 0, Value.int IntKind.u8 0, Value.int IntKind.u8 0, Value.int IntKind.u8 0, Value.int IntKind.u8 0, Value.int IntKind.u8 0, Value.int IntKind.u8 0, Value.int IntKind.u8 0, Value.int IntKind.u8 0, Value.int IntKind.u8 0, Value.int IntKind.u8 0, Value.int IntKind.u8 0, Value.int IntKind.u8 0, Value.int IntKind.u8 0, Value.int IntKind.u8 0, Value.int IntKind.u8 0, Value.int IntKind.u8 0, Value.int IntKind.u8 0, Value.int IntKind.u8 0]).append ([Value.int IntKind.u8 0, Value.int IntKind.u8 0, Value.int IntKind.u8 0, Value.int IntKind.u8 0, Value.int IntKind.u8 0, Value.int IntKind.u8 0, Value.int IntKind.u8 0, Value.int IntKind.u8 0, Value.int IntKind.u8 0, Value.int IntKind.u8 0, Value.int IntKind.u8 0, Value.int IntKind.u8 0, Value.int IntKind.u8 0, Value.int IntKind.u8 0, Value.int IntKind.u8 0, Value.int IntKind.u8 0, Value.int IntKind.u8 0, Value.int IntKind.u8 0, Value.int IntKind.u8 0, Value.int IntKind.u8 0, Value.int IntKind.u8 0, Value.int IntKind.u8 0, Value.int IntKind.u8 0, Value.int IntKind.u8 0, Value.int IntKind.u8 0, Value.int IntKind.u8 0, Value.int IntKind.u8 0, Value.int IntKind.u8 0, Value.int IntKind.u8 0, Value.int IntKind.u8 0, Value.int IntKind.u8 0, Value.int IntKind.u8 0, Value.int IntKind.u8 0, Value.int IntKind.u8 0, Value.int IntKind.u8 0, Value.int IntKind.u8 0, Value.int IntKind.u8 0, Value.int IntKind.u8 0, Value.int IntKind.u8 0, Value.int IntKind.u8 0, Value.int IntKind.u8 0, Value.int IntKind.u8 0, Value.int IntKind.u8 0, Value.int IntKind.u8 0, Value.int IntKind.u8 0, Value.int IntKind.u8 0, Value.int IntKind.u8 0, Value.int IntKind.u8 0, Value.int IntKind.u8 0, Value.int IntKind.u8 0, Value.int IntKind.u8 0, Value.int IntKind.u8 0, Value.int IntKind.u8 0, Value.int IntKind.u8 0, Value.int IntKind.u8 0, Value.int IntKind.u8 0, Value.int IntKind.u8 0, Value.int IntKind.u8 0, Value.int IntKind.u8 0, Value.int IntKind.u8 0, Value.int IntKind.u8 0, Value.int IntKind.u8 0, Value.int IntKind.u8 0, Value.int IntKind.u8 0].append [Value.int IntKind.u8 0, Value.int IntKind.u8 0, Value.int IntKind.u8 0, Value.int IntKind.u8 0, Value.int IntKind.u8 0, Value.int IntKind.u8 0, Value.int IntKind.u8 0, Value.int IntKind.u8 0, Value.int IntKind.u8 0, Value.int IntKind.u8 0, Value.int IntKind.u8 0, Value.int IntKind.u8 0, Value.int IntKind.u8 0, Value.int IntKind.u8 0, Value.int IntKind.u8 0, Value.int IntKind.u8 0, Value.int IntKind.u8 0, Value.int IntKind.u8 0, Value.int IntKind.u8 0, Value.int IntKind.u8 0, Value.int IntKind.u8 0, Value.int IntKind.u8 0, Value.int IntKind.u8 0, Value.int IntKind.u8 0, Value.int IntKind.u8 0, Value.int IntKind.u8 0, Value.int IntKind.u8 0, Value.int IntKind.u8 0, Value.int IntKind.u8 0, Value.int IntKind.u8 0, Value.int IntKind.u8 0, Value.int IntKind.u8 0, Value.int IntKind.u8 0, Value.int IntKind.u8 0, Value.int IntKind.u8 0, Value.int IntKind.u8 0, Value.int IntKind.u8 0, Value.int IntKind.u8 0, Value.int IntKind.u8 0, Value.int IntKind.u8 0, Value.int IntKind.u8 0, Value.int IntKind.u8 0, Value.int IntKind.u8 0, Value.int IntKind.u8 0, Value.int IntKind.u8 0, Value.int IntKind.u8 0, Value.int IntKind.u8 0, Value.int IntKind.u8 0, Value.int IntKind.u8 0, Value.int IntKind.u8 0, Value.int IntKind.u8 0, Value.int IntKind.u8 0, Value.int IntKind.u8 0, Value.int IntKind.u8 0, Value.int IntKind.u8 0, Value.int IntKind.u8 0, Value.int IntKind.u8 0, Value.int IntKind.u8 0, Value.int IntKind.u8 0, Value.int IntKind.u8 0, Value.int IntKind.u8 0, Value.int IntKind.u8 0, Value.int IntKind.u8 0, Value.int IntKind.u8 0])).toArray) 256 256 := ⟨by kernel_rfl⟩
instance iu110 : UT Tryd.prog 110 Tryd.t110.desc := ⟨Tryd.underlying110⟩
instance ii110 : TI Tryd.prog 110 (Value.agg #[Value.int IntKind.u8 0, Value.int IntKind.u8 0]) 2 2 := ⟨by kernel_rfl⟩
instance ib110 : BT Tryd.prog 110 [(0, 1), (1, 1)] := ⟨⟨_, Tryd.underlying110, by kernel_rfl⟩⟩
instance is110_0 : SF Tryd.prog 110 0 0 5 := ⟨⟨_, _, Tryd.underlying110, rfl, rfl, rfl⟩⟩
instance is110_1 : SF Tryd.prog 110 1 1 5 := ⟨⟨_, _, Tryd.underlying110, rfl, rfl, rfl⟩⟩
instance iu111 : UT Tryd.prog 111 Tryd.t110.desc := ⟨Tryd.underlying111⟩
instance ii111 : TI Tryd.prog 111 (Value.agg #[Value.int IntKind.u8 0, Value.int IntKind.u8 0]) 2 2 := ⟨by kernel_rfl⟩
instance ib111 : BT Tryd.prog 111 [(0, 1), (1, 1)] := ⟨⟨_, Tryd.underlying111, by kernel_rfl⟩⟩
instance is111_0 : SF Tryd.prog 111 0 0 5 := ⟨⟨_, _, Tryd.underlying111, rfl, rfl, rfl⟩⟩
instance is111_1 : SF Tryd.prog 111 1 1 5 := ⟨⟨_, _, Tryd.underlying111, rfl, rfl, rfl⟩⟩
instance iu112 : UT Tryd.prog 112 (TypeDesc.array 16 111) := ⟨Tryd.underlying112⟩
instance ii112 : TI Tryd.prog 112 (Value.agg #[Value.int IntKind.u8 0, Value.int IntKind.u8 0, Value.int IntKind.u8 0, Value.int IntKind.u8 0, Value.int IntKind.u8 0, Value.int IntKind.u8 0, Value.int IntKind.u8 0, Value.int IntKind.u8 0, Value.int IntKind.u8 0, Value.int IntKind.u8 0, Value.int IntKind.u8 0, Value.int IntKind.u8 0, Value.int IntKind.u8 0, Value.int IntKind.u8 0, Value.int IntKind.u8 0, Value.int IntKind.u8 0, Value.int IntKind.u8 0, Value.int IntKind.u8 0, Value.int IntKind.u8 0, Value.int IntKind.u8 0, Value.int IntKind.u8 0, Value.int IntKind.u8 0, Value.int IntKind.u8 0, Value.int IntKind.u8 0, Value.int IntKind.u8 0, Value.int IntKind.u8 0, Value.int IntKind.u8 0, Value.int IntKind.u8 0, Value.int IntKind.u8 0, Value.int IntKind.u8 0, Value.int IntKind.u8 0, Value.int IntKind.u8 0]) 32 32 := ⟨by kernel_rfl⟩
instance iu113 : UT Tryd.prog 113 (TypeDesc.int IntKind.u64) := ⟨Tryd.underlying113⟩
instance ii113 : TI Tryd.prog 113 (Value.int IntKind.u64 0) 1 8 := ⟨by kernel_rfl⟩
instance iu114 : UT Tryd.prog 114 Tryd.t114.desc := ⟨Tryd.underlying114⟩
instance ii114 : TI Tryd.prog 114 Value.nilFunc 1 8 := ⟨by kernel_rfl⟩
instance iu115 : UT Tryd.prog 115 Tryd.t115.desc := ⟨Tryd.underlying115⟩
instance ii115 : TI Tryd.prog 115 Value.nilFunc 1 8 := ⟨by kernel_rfl⟩
instance iu116 : UT Tryd.prog 116 Tryd.t116.desc := ⟨Tryd.underlying116⟩
instance ii116 : TI Tryd.prog 116 Value.nilFunc 1 8 := ⟨by kernel_rfl⟩
instance iu117 : UT Tryd.prog 117 Tryd.t117.desc := ⟨Tryd.underlying117⟩
instance ii117 : TI Tryd.prog 117 Value.nilFunc 1 8 := ⟨by kernel_rfl⟩
instance iu118 : UT Tryd.prog 118 (TypeDesc.int IntKind.u64) := ⟨Tryd.underlying118⟩
instance ii118 : TI Tryd.prog 118 (Value.int IntKind.u64 0) 1 8 := ⟨by kernel_rfl⟩
instance iu119 : UT Tryd.prog 119 (TypeDesc.slice 5) := ⟨Tryd.underlying119⟩
instance ii119 : TI Tryd.prog 119 (Value.slice none 0 0) 1 24 := ⟨by kernel_rfl⟩
instance iu120 : UT Tryd.prog 120 Tryd.t120.desc := ⟨Tryd.underlying120⟩
instance ii120 : TI Tryd.prog 120 Value.nilFunc 1 8 := ⟨by kernel_rfl⟩
instance iu121 : UT Tryd.prog 121 Tryd.t121.desc := ⟨Tryd.underlying121⟩
instance ii121 : TI Tryd.prog 121 (Value.agg #[Value.pointer none, Value.pointer none, Value.pointer none, Value.string { data := #[] }]) 4 40 := ⟨by kernel_rfl⟩
instance ib121 : BT Tryd.prog 121 [(0, 1), (1, 1), (2, 1), (3, 1)] := ⟨⟨_, Tryd.underlying121, by kernel_rfl⟩⟩
instance is121_0 : SF Tryd.prog 121 0 0 17 := ⟨⟨_, _, Tryd.underlying121, rfl, rfl, rfl⟩⟩
instance is121_1 : SF Tryd.prog 121 1 1 17 := ⟨⟨_, _, Tryd.underlying121, rfl, rfl, rfl⟩⟩
instance is121_2 : SF Tryd.prog 121 2 2 17 := ⟨⟨_, _, Tryd.underlying121, rfl, rfl, rfl⟩⟩
instance is121_3 : SF Tryd.prog 121 3 3 9 := ⟨⟨_, _, Tryd.underlying121, rfl, rfl, rfl⟩⟩
instance iu122 : UT Tryd.prog 122 Tryd.t121.desc := ⟨Tryd.underlying122⟩
instance ii122 : TI Tryd.prog 122 (Value.agg #[Value.pointer none, Value.pointer none, Value.pointer none, Value.string { data := #[] }]) 4 40 := ⟨by kernel_rfl⟩
instance ib122 : BT Tryd.prog 122 [(0, 1), (1, 1), (2, 1), (3, 1)] := ⟨⟨_, Tryd.underlying122, by kernel_rfl⟩⟩
instance is122_0 : SF Tryd.prog 122 0 0 17 := ⟨⟨_, _, Tryd.underlying122, rfl, rfl, rfl⟩⟩
instance is122_1 : SF Tryd.prog 122 1 1 17 := ⟨⟨_, _, Tryd.underlying122, rfl, rfl, rfl⟩⟩
instance is122_2 : SF Tryd.prog 122 2 2 17 := ⟨⟨_, _, Tryd.underlying122, rfl, rfl, rfl⟩⟩
instance is122_3 : SF Tryd.prog 122 3 3 9 := ⟨⟨_, _, Tryd.underlying122, rfl, rfl, rfl⟩⟩
instance iu123 : UT Tryd.prog 123 (TypeDesc.array 0 16) := ⟨Tryd.underlying123⟩
instance ii123 : TI Tryd.prog 123 (Value.agg #[]) 0 0 := ⟨by kernel_rfl⟩
instance iu124 : UT Tryd.prog 124 Tryd.t124.desc := ⟨Tryd.underlying124⟩
instance ii124 : TI Tryd.prog 124 (Value.agg #[]) 0 0 := ⟨by kernel_rfl⟩
instance ib124 : BT Tryd.prog 124 [(0, 0)] := ⟨⟨_, Tryd.underlying124, by kernel_rfl⟩⟩
instance is124_0 : SF Tryd.prog 124 0 0 123 := ⟨⟨_, _, Tryd.underlying124, rfl, rfl, rfl⟩⟩
instance iu125 : UT Tryd.prog 125 Tryd.t124.desc := ⟨Tryd.underlying125⟩
instance ii125 : TI Tryd.prog 125 (Value.agg #[]) 0 0 := ⟨by kernel_rfl⟩
instance ib125 : BT Tryd.prog 125 [(0, 0)] := ⟨⟨_, Tryd.underlying125, by kernel_rfl⟩⟩
instance is125_0 : SF Tryd.prog 125 0 0 123 := ⟨⟨_, _, Tryd.underlying125, rfl, rfl, rfl⟩⟩
instance iu126 : UT Tryd.prog 126 Tryd.t126.desc := ⟨Tryd.underlying126⟩
instance ii126 : TI Tryd.prog 126 Value.nilFunc 1 8 := ⟨by kernel_rfl⟩
instance iu127 : UT Tryd.prog 127 (TypeDesc.int IntKind.u32) := ⟨Tryd.underlying127⟩
instance ii127 : TI Tryd.prog 127 (Value.int IntKind.u32 0) 1 4 := ⟨by kernel_rfl⟩
instance iu128 : UT Tryd.prog 128 (TypeDesc.int IntKind.u8) := ⟨Tryd.underlying128⟩
instance ii128 : TI Tryd.prog 128 (Value.int IntKind.u8 0) 1 1 := ⟨by kernel_rfl⟩
instance iu129 : UT Tryd.prog 129 (TypeDesc.int IntKind.u8) := ⟨Tryd.underlying129⟩
instance ii129 : TI Tryd.prog 129 (Value.int IntKind.u8 0) 1 1 := ⟨by kernel_rfl⟩
theorem en3 : ∀ args w, (Go.callFunc 3 args).run Tryd.prog w = .ok (.enter 3 args) w := enters_fn Tryd.func3 (by kernel_rfl) rfl
theorem en4 : ∀ args w, (Go.callFunc 4 args).run Tryd.prog w = .ok (.enter 4 args) w := enters_fn Tryd.func4 (by kernel_rfl) rfl
theorem en5 : ∀ args w, (Go.callFunc 5 args).run Tryd.prog w = .ok (.enter 5 args) w := enters_fn Tryd.func5 (by kernel_rfl) rfl
theorem en6 : ∀ args w, (Go.callFunc 6 args).run Tryd.prog w = .ok (.enter 6 args) w := enters_fn Tryd.func6 (by kernel_rfl) rfl
theorem en7 : ∀ args w, (Go.callFunc 7 args).run Tryd.prog w = .ok (.enter 7 args) w := enters_fn Tryd.func7 (by kernel_rfl) rfl
theorem en8 : ∀ args w, (Go.callFunc 8 args).run Tryd.prog w = .ok (.enter 8 args) w := enters_fn Tryd.func8 (by kernel_rfl) rfl
theorem en9 : ∀ args w, (Go.callFunc 9 args).run Tryd.prog w = .ok (.enter 9 args) w := enters_fn Tryd.func9 (by kernel_rfl) rfl
theorem en10 : ∀ args w, (Go.callFunc 10 args).run Tryd.prog w = .ok (.enter 10 args) w := enters_fn Tryd.func10 (by kernel_rfl) rfl
theorem en11 : ∀ args w, (Go.callFunc 11 args).run Tryd.prog w = .ok (.enter 11 args) w := enters_fn Tryd.func11 (by kernel_rfl) rfl
theorem en12 : ∀ args w, (Go.callFunc 12 args).run Tryd.prog w = .ok (.enter 12 args) w := enters_fn Tryd.func12 (by kernel_rfl) rfl
theorem en13 : ∀ args w, (Go.callFunc 13 args).run Tryd.prog w = .ok (.enter 13 args) w := enters_fn Tryd.func13 (by kernel_rfl) rfl
theorem en14 : ∀ args w, (Go.callFunc 14 args).run Tryd.prog w = .ok (.enter 14 args) w := enters_fn Tryd.func14 (by kernel_rfl) rfl
theorem en15 : ∀ args w, (Go.callFunc 15 args).run Tryd.prog w = .ok (.enter 15 args) w := enters_fn Tryd.func15 (by kernel_rfl) rfl
theorem en16 : ∀ args w, (Go.callFunc 16 args).run Tryd.prog w = .ok (.enter 16 args) w := enters_fn Tryd.func16 (by kernel_rfl) rfl
theorem en17 : ∀ args w, (Go.callFunc 17 args).run Tryd.prog w = .ok (.enter 17 args) w := enters_fn Tryd.func17 (by kernel_rfl) rfl
theorem en18 : ∀ args w, (Go.callFunc 18 args).run Tryd.prog w = .ok (.enter 18 args) w := enters_fn Tryd.func18 (by kernel_rfl) rfl
theorem en19 : ∀ args w, (Go.callFunc 19 args).run Tryd.prog w = .ok (.enter 19 args) w := enters_fn Tryd.func19 (by kernel_rfl) rfl
theorem en20 : ∀ args w, (Go.callFunc 20 args).run Tryd.prog w = .ok (.enter 20 args) w := enters_fn Tryd.func20 (by kernel_rfl) rfl
theorem en21 : ∀ args w, (Go.callFunc 21 args).run Tryd.prog w = .ok (.enter 21 args) w := enters_fn Tryd.func21 (by kernel_rfl) rfl
theorem en22 : ∀ args w, (Go.callFunc 22 args).run Tryd.prog w = .ok (.enter 22 args) w := enters_fn Tryd.func22 (by kernel_rfl) rfl
theorem en23 : ∀ args w, (Go.callFunc 23 args).run Tryd.prog w = .ok (.enter 23 args) w := enters_fn Tryd.func23 (by kernel_rfl) rfl
theorem en24 : ∀ args w, (Go.callFunc 24 args).run Tryd.prog w = .ok (.enter 24 args) w := enters_fn Tryd.func24 (by kernel_rfl) rfl
theorem en25 : ∀ args w, (Go.callFunc 25 args).run Tryd.prog w = .ok (.enter 25 args) w := enters_fn Tryd.func25 (by kernel_rfl) rfl
theorem en26 : ∀ args w, (Go.callFunc 26 args).run Tryd.prog w = .ok (.enter 26 args) w := enters_fn Tryd.func26 (by kernel_rfl) rfl
theorem en27 : ∀ args w, (Go.callFunc 27 args).run Tryd.prog w = .ok (.enter 27 args) w := enters_fn Tryd.func27 (by kernel_rfl) rfl
theorem en28 : ∀ args w, (Go.callFunc 28 args).run Tryd.prog w = .ok (.enter 28 args) w := enters_fn Tryd.func28 (by kernel_rfl) rfl
theorem en29 : ∀ args w, (Go.callFunc 29 args).run Tryd.prog w = .ok (.enter 29 args) w := enters_fn Tryd.func29 (by kernel_rfl) rfl
theorem en30 : ∀ args w, (Go.callFunc 30 args).run Tryd.prog w = .ok (.enter 30 args) w := enters_fn Tryd.func30 (by kernel_rfl) rfl
theorem en31 : ∀ args w, (Go.callFunc 31 args).run Tryd.prog w = .ok (.enter 31 args) w := enters_fn Tryd.func31 (by kernel_rfl) rfl
theorem en32 : ∀ args w, (Go.callFunc 32 args).run Tryd.prog w = .ok (.enter 32 args) w := enters_fn Tryd.func32 (by kernel_rfl) rfl
theorem en33 : ∀ args w, (Go.callFunc 33 args).run Tryd.prog w = .ok (.enter 33 args) w := enters_fn Tryd.func33 (by kernel_rfl) rfl
theorem en34 : ∀ args w, (Go.callFunc 34 args).run Tryd.prog w = .ok (.enter 34 args) w := enters_fn Tryd.func34 (by kernel_rfl) rfl
theorem en35 : ∀ args w, (Go.callFunc 35 args).run Tryd.prog w = .ok (.enter 35 args) w := enters_fn Tryd.func35 (by kernel_rfl) rfl
theorem en36 : ∀ args w, (Go.callFunc 36 args).run Tryd.prog w = .ok (.enter 36 args) w := enters_fn Tryd.func36 (by kernel_rfl) rfl
theorem en37 : ∀ args w, (Go.callFunc 37 args).run Tryd.prog w = .ok (.enter 37 args) w := enters_fn Tryd.func37 (by kernel_rfl) rfl
theorem en38 : ∀ args w, (Go.callFunc 38 args).run Tryd.prog w = .ok (.enter 38 args) w := enters_fn Tryd.func38 (by kernel_rfl) rfl
theorem en39 : ∀ args w, (Go.callFunc 39 args).run Tryd.prog w = .ok (.enter 39 args) w := enters_fn Tryd.func39 (by kernel_rfl) rfl
theorem en40 : ∀ args w, (Go.callFunc 40 args).run Tryd.prog w = .ok (.enter 40 args) w := enters_fn Tryd.func40 (by kernel_rfl) rfl
theorem en41 : ∀ args w, (Go.callFunc 41 args).run Tryd.prog w = .ok (.enter 41 args) w := enters_fn Tryd.func41 (by kernel_rfl) rfl
theorem en42 : ∀ args w, (Go.callFunc 42 args).run Tryd.prog w = .ok (.enter 42 args) w := enters_fn Tryd.func42 (by kernel_rfl) rfl
theorem en43 : ∀ args w, (Go.callFunc 43 args).run Tryd.prog w = .ok (.enter 43 args) w := enters_fn Tryd.func43 (by kernel_rfl) rfl
theorem en44 : ∀ args w, (Go.callFunc 44 args).run Tryd.prog w = .ok (.enter 44 args) w := enters_fn Tryd.func44 (by kernel_rfl) rfl
theorem en45 : ∀ args w, (Go.callFunc 45 args).run Tryd.prog w = .ok (.enter 45 args) w := enters_fn Tryd.func45 (by kernel_rfl) rfl
theorem en46 : ∀ args w, (Go.callFunc 46 args).run Tryd.prog w = .ok (.enter 46 args) w := enters_fn Tryd.func46 (by kernel_rfl) rfl
theorem en47 : ∀ args w, (Go.callFunc 47 args).run Tryd.prog w = .ok (.enter 47 args) w := enters_fn Tryd.func47 (by kernel_rfl) rfl
theorem en48 : ∀ args w, (Go.callFunc 48 args).run Tryd.prog w = .ok (.enter 48 args) w := enters_fn Tryd.func48 (by kernel_rfl) rfl
theorem en49 : ∀ args w, (Go.callFunc 49 args).run Tryd.prog w = .ok (.enter 49 args) w := enters_fn Tryd.func49 (by kernel_rfl) rfl
theorem en50 : ∀ args w, (Go.callFunc 50 args).run Tryd.prog w = .ok (.enter 50 args) w := enters_fn Tryd.func50 (by kernel_rfl) rfl
theorem en51 : ∀ args w, (Go.callFunc 51 args).run Tryd.prog w = .ok (.enter 51 args) w := enters_fn Tryd.func51 (by kernel_rfl) rfl
theorem en52 : ∀ args w, (Go.callFunc 52 args).run Tryd.prog w = .ok (.enter 52 args) w := enters_fn Tryd.func52 (by kernel_rfl) rfl
theorem en53 : ∀ args w, (Go.callFunc 53 args).run Tryd.prog w = .ok (.enter 53 args) w := enters_fn Tryd.func53 (by kernel_rfl) rfl
theorem en54 : ∀ args w, (Go.callFunc 54 args).run Tryd.prog w = .ok (.enter 54 args) w := enters_fn Tryd.func54 (by kernel_rfl) rfl
theorem en55 : ∀ args w, (Go.callFunc 55 args).run Tryd.prog w = .ok (.enter 55 args) w := enters_fn Tryd.func55 (by kernel_rfl) rfl
theorem en56 : ∀ args w, (Go.callFunc 56 args).run Tryd.prog w = .ok (.enter 56 args) w := enters_fn Tryd.func56 (by kernel_rfl) rfl
theorem en57 : ∀ args w, (Go.callFunc 57 args).run Tryd.prog w = .ok (.enter 57 args) w := enters_fn Tryd.func57 (by kernel_rfl) rfl
theorem en58 : ∀ args w, (Go.callFunc 58 args).run Tryd.prog w = .ok (.enter 58 args) w := enters_fn Tryd.func58 (by kernel_rfl) rfl
theorem en59 : ∀ args w, (Go.callFunc 59 args).run Tryd.prog w = .ok (.enter 59 args) w := enters_fn Tryd.func59 (by kernel_rfl) rfl
theorem en60 : ∀ args w, (Go.callFunc 60 args).run Tryd.prog w = .ok (.enter 60 args) w := enters_fn Tryd.func60 (by kernel_rfl) rfl
theorem en61 : ∀ args w, (Go.callFunc 61 args).run Tryd.prog w = .ok (.enter 61 args) w := enters_fn Tryd.func61 (by kernel_rfl) rfl
theorem en62 : ∀ args w, (Go.callFunc 62 args).run Tryd.prog w = .ok (.enter 62 args) w := enters_fn Tryd.func62 (by kernel_rfl) rfl
theorem en63 : ∀ args w, (Go.callFunc 63 args).run Tryd.prog w = .ok (.enter 63 args) w := enters_fn Tryd.func63 (by kernel_rfl) rfl
theorem en64 : ∀ args w, (Go.callFunc 64 args).run Tryd.prog w = .ok (.enter 64 args) w := enters_fn Tryd.func64 (by kernel_rfl) rfl
theorem en65 : ∀ args w, (Go.callFunc 65 args).run Tryd.prog w = .ok (.enter 65 args) w := enters_fn Tryd.func65 (by kernel_rfl) rfl
theorem en66 : ∀ args w, (Go.callFunc 66 args).run Tryd.prog w = .ok (.enter 66 args) w := enters_fn Tryd.func66 (by kernel_rfl) rfl
theorem en67 : ∀ args w, (Go.callFunc 67 args).run Tryd.prog w = .ok (.enter 67 args) w := enters_fn Tryd.func67 (by kernel_rfl) rfl
theorem en68 : ∀ args w, (Go.callFunc 68 args).run Tryd.prog w = .ok (.enter 68 args) w := enters_fn Tryd.func68 (by kernel_rfl) rfl
theorem en69 : ∀ args w, (Go.callFunc 69 args).run Tryd.prog w = .ok (.enter 69 args) w := enters_fn Tryd.func69 (by kernel_rfl) rfl
theorem en70 : ∀ args w, (Go.callFunc 70 args).run Tryd.prog w = .ok (.enter 70 args) w := enters_fn Tryd.func70 (by kernel_rfl) rfl
theorem en71 : ∀ args w, (Go.callFunc 71 args).run Tryd.prog w = .ok (.enter 71 args) w := enters_fn Tryd.func71 (by kernel_rfl) rfl
theorem en72 : ∀ args w, (Go.callFunc 72 args).run Tryd.prog w = .ok (.enter 72 args) w := enters_fn Tryd.func72 (by kernel_rfl) rfl
theorem en73 : ∀ args w, (Go.callFunc 73 args).run Tryd.prog w = .ok (.enter 73 args) w := enters_fn Tryd.func73 (by kernel_rfl) rfl
theorem en74 : ∀ args w, (Go.callFunc 74 args).run Tryd.prog w = .ok (.enter 74 args) w := enters_fn Tryd.func74 (by kernel_rfl) rfl
theorem en75 : ∀ args w, (Go.callFunc 75 args).run Tryd.prog w = .ok (.enter 75 args) w := enters_fn Tryd.func75 (by kernel_rfl) rfl
theorem en76 : ∀ args w, (Go.callFunc 76 args).run Tryd.prog w = .ok (.enter 76 args) w := enters_fn Tryd.func76 (by kernel_rfl) rfl
theorem en77 : ∀ args w, (Go.callFunc 77 args).run Tryd.prog w = .ok (.enter 77 args) w := enters_fn Tryd.func77 (by kernel_rfl) rfl
theorem en78 : ∀ args w, (Go.callFunc 78 args).run Tryd.prog w = .ok (.enter 78 args) w := enters_fn Tryd.func78 (by kernel_rfl) rfl
theorem en79 : ∀ args w, (Go.callFunc 79 args).run Tryd.prog w = .ok (.enter 79 args) w := enters_fn Tryd.func79 (by kernel_rfl) rfl
theorem en80 : ∀ args w, (Go.callFunc 80 args).run Tryd.prog w = .ok (.enter 80 args) w := enters_fn Tryd.func80 (by kernel_rfl) rfl
theorem en81 : ∀ args w, (Go.callFunc 81 args).run Tryd.prog w = .ok (.enter 81 args) w := enters_fn Tryd.func81 (by kernel_rfl) rfl
theorem en82 : ∀ args w, (Go.callFunc 82 args).run Tryd.prog w = .ok (.enter 82 args) w := enters_fn Tryd.func82 (by kernel_rfl) rfl
theorem en83 : ∀ args w, (Go.callFunc 83 args).run Tryd.prog w = .ok (.enter 83 args) w := enters_fn Tryd.func83 (by kernel_rfl) rfl
theorem en84 : ∀ args w, (Go.callFunc 84 args).run Tryd.prog w = .ok (.enter 84 args) w := enters_fn Tryd.func84 (by kernel_rfl) rfl
theorem en85 : ∀ args w, (Go.callFunc 85 args).run Tryd.prog w = .ok (.enter 85 args) w := enters_fn Tryd.func85 (by kernel_rfl) rfl
theorem en106 : ∀ args w, (Go.callFunc 106 args).run Tryd.prog w = .ok (.enter 106 args) w := enters_fn Tryd.func106 (by kernel_rfl) rfl
theorem mixedOk : Tryd.prog.follows .mixedOrders = true := by kernel_rfl
end Go.Proofs.YtjpjpgeeeigbkaaDoor
