/-
  What the program table says of each type.
-/
import Derived.Test.YtaajcbhingpfeaaProg
import Derived.Test.YtaajcbhingpfeaaY1
import Derived.KernelRfl
set_option linter.all false
namespace Go.Proofs.Ytaajcbhingpfeaa
open Go.En

instance iu0 : UT Try.prog 0 Try.t0.desc := ⟨Try.underlying0⟩
instance ii0 : TI Try.prog 0 (Value.tuple #[]) 1 0 := ⟨by kernel_rfl⟩
instance iu1 : UT Try.prog 1 Try.t1.desc := ⟨Try.underlying1⟩
instance ii1 : TI Try.prog 1 Value.nilFunc 1 8 := ⟨by kernel_rfl⟩
instance iu2 : UT Try.prog 2 (TypeDesc.int IntKind.i64) := ⟨Try.underlying2⟩
instance ii2 : TI Try.prog 2 (Value.int IntKind.i64 0) 1 8 := ⟨by kernel_rfl⟩
instance iu3 : UT Try.prog 3 (TypeDesc.int IntKind.i64) := ⟨Try.underlying3⟩
instance ii3 : TI Try.prog 3 (Value.int IntKind.i64 0) 1 8 := ⟨by kernel_rfl⟩
instance iu4 : UT Try.prog 4 (TypeDesc.bool) := ⟨Try.underlying4⟩
instance ii4 : TI Try.prog 4 (Value.bool false) 1 1 := ⟨by kernel_rfl⟩
instance iu5 : UT Try.prog 5 (TypeDesc.int IntKind.u8) := ⟨Try.underlying5⟩
instance ii5 : TI Try.prog 5 (Value.int IntKind.u8 0) 1 1 := ⟨by kernel_rfl⟩
instance iu6 : UT Try.prog 6 (TypeDesc.int IntKind.u8) := ⟨Try.underlying6⟩
instance ii6 : TI Try.prog 6 (Value.int IntKind.u8 0) 1 1 := ⟨by kernel_rfl⟩
instance iu7 : UT Try.prog 7 Try.t7.desc := ⟨Try.underlying7⟩
instance ii7 : TI Try.prog 7 (Value.agg #[Value.int IntKind.i64 0, Value.int IntKind.i64 0, Value.bool false, Value.int IntKind.u8 0]) 4 24 := ⟨by kernel_rfl⟩
instance ib7 : BT Try.prog 7 [(0, 1), (1, 1), (2, 1), (3, 1)] := ⟨⟨_, Try.underlying7, by kernel_rfl⟩⟩
instance is7_0 : SF Try.prog 7 0 0 2 := ⟨⟨_, _, Try.underlying7, rfl, rfl, rfl⟩⟩
instance is7_1 : SF Try.prog 7 1 1 3 := ⟨⟨_, _, Try.underlying7, rfl, rfl, rfl⟩⟩
instance is7_2 : SF Try.prog 7 2 2 4 := ⟨⟨_, _, Try.underlying7, rfl, rfl, rfl⟩⟩
instance is7_3 : SF Try.prog 7 3 3 6 := ⟨⟨_, _, Try.underlying7, rfl, rfl, rfl⟩⟩
instance iu8 : UT Try.prog 8 Try.t7.desc := ⟨Try.underlying8⟩
instance ii8 : TI Try.prog 8 (Value.agg #[Value.int IntKind.i64 0, Value.int IntKind.i64 0, Value.bool false, Value.int IntKind.u8 0]) 4 24 := ⟨by kernel_rfl⟩
instance ib8 : BT Try.prog 8 [(0, 1), (1, 1), (2, 1), (3, 1)] := ⟨⟨_, Try.underlying8, by kernel_rfl⟩⟩
instance is8_0 : SF Try.prog 8 0 0 2 := ⟨⟨_, _, Try.underlying8, rfl, rfl, rfl⟩⟩
instance is8_1 : SF Try.prog 8 1 1 3 := ⟨⟨_, _, Try.underlying8, rfl, rfl, rfl⟩⟩
instance is8_2 : SF Try.prog 8 2 2 4 := ⟨⟨_, _, Try.underlying8, rfl, rfl, rfl⟩⟩
instance is8_3 : SF Try.prog 8 3 3 6 := ⟨⟨_, _, Try.underlying8, rfl, rfl, rfl⟩⟩
instance iu9 : UT Try.prog 9 (TypeDesc.string) := ⟨Try.underlying9⟩
instance ii9 : TI Try.prog 9 (Value.string { data := #[] }) 1 16 := ⟨by kernel_rfl⟩
instance iu10 : UT Try.prog 10 (TypeDesc.string) := ⟨Try.underlying10⟩
instance ii10 : TI Try.prog 10 (Value.string { data := #[] }) 1 16 := ⟨by kernel_rfl⟩
instance iu11 : UT Try.prog 11 (TypeDesc.string) := ⟨Try.underlying11⟩
instance ii11 : TI Try.prog 11 (Value.string { data := #[] }) 1 16 := ⟨by kernel_rfl⟩
instance iu12 : UT Try.prog 12 (TypeDesc.int IntKind.u64) := ⟨Try.underlying12⟩
instance ii12 : TI Try.prog 12 (Value.int IntKind.u64 0) 1 8 := ⟨by kernel_rfl⟩
instance iu13 : UT Try.prog 13 Try.t13.desc := ⟨Try.underlying13⟩
instance ii13 : TI Try.prog 13 (Value.agg #[Value.string { data := #[] }, Value.int IntKind.u64 0]) 2 24 := ⟨by kernel_rfl⟩
instance ib13 : BT Try.prog 13 [(0, 1), (1, 1)] := ⟨⟨_, Try.underlying13, by kernel_rfl⟩⟩
instance is13_0 : SF Try.prog 13 0 0 9 := ⟨⟨_, _, Try.underlying13, rfl, rfl, rfl⟩⟩
instance is13_1 : SF Try.prog 13 1 1 12 := ⟨⟨_, _, Try.underlying13, rfl, rfl, rfl⟩⟩
instance iu14 : UT Try.prog 14 Try.t13.desc := ⟨Try.underlying14⟩
instance ii14 : TI Try.prog 14 (Value.agg #[Value.string { data := #[] }, Value.int IntKind.u64 0]) 2 24 := ⟨by kernel_rfl⟩
instance ib14 : BT Try.prog 14 [(0, 1), (1, 1)] := ⟨⟨_, Try.underlying14, by kernel_rfl⟩⟩
instance is14_0 : SF Try.prog 14 0 0 9 := ⟨⟨_, _, Try.underlying14, rfl, rfl, rfl⟩⟩
instance is14_1 : SF Try.prog 14 1 1 12 := ⟨⟨_, _, Try.underlying14, rfl, rfl, rfl⟩⟩
instance iu15 : UT Try.prog 15 (TypeDesc.pointer 129) := ⟨Try.underlying15⟩
instance ii15 : TI Try.prog 15 (Value.pointer none) 1 8 := ⟨by kernel_rfl⟩
instance iu16 : UT Try.prog 16 (TypeDesc.pointer 132) := ⟨Try.underlying16⟩
instance ii16 : TI Try.prog 16 (Value.pointer none) 1 8 := ⟨by kernel_rfl⟩
instance iu17 : UT Try.prog 17 (TypeDesc.pointer 141) := ⟨Try.underlying17⟩
instance ii17 : TI Try.prog 17 (Value.pointer none) 1 8 := ⟨by kernel_rfl⟩
instance iu18 : UT Try.prog 18 Try.t18.desc := ⟨Try.underlying18⟩
instance ii18 : TI Try.prog 18 (Value.agg #[Value.pointer none]) 1 8 := ⟨by kernel_rfl⟩
instance ib18 : BT Try.prog 18 [(0, 1)] := ⟨⟨_, Try.underlying18, by kernel_rfl⟩⟩
instance is18_0 : SF Try.prog 18 0 0 17 := ⟨⟨_, _, Try.underlying18, rfl, rfl, rfl⟩⟩
instance iu19 : UT Try.prog 19 Try.t18.desc := ⟨Try.underlying19⟩
instance ii19 : TI Try.prog 19 (Value.agg #[Value.pointer none]) 1 8 := ⟨by kernel_rfl⟩
instance ib19 : BT Try.prog 19 [(0, 1)] := ⟨⟨_, Try.underlying19, by kernel_rfl⟩⟩
instance is19_0 : SF Try.prog 19 0 0 17 := ⟨⟨_, _, Try.underlying19, rfl, rfl, rfl⟩⟩
instance iu20 : UT Try.prog 20 Try.t20.desc := ⟨Try.underlying20⟩
instance ii20 : TI Try.prog 20 Value.nilIface 1 16 := ⟨by kernel_rfl⟩
instance iu21 : UT Try.prog 21 (TypeDesc.int IntKind.i32) := ⟨Try.underlying21⟩
instance ii21 : TI Try.prog 21 (Value.int IntKind.i32 0) 1 4 := ⟨by kernel_rfl⟩
instance iu22 : UT Try.prog 22 (TypeDesc.slice 3) := ⟨Try.underlying22⟩
instance ii22 : TI Try.prog 22 (Value.slice none 0 0) 1 24 := ⟨by kernel_rfl⟩
instance iu23 : UT Try.prog 23 Try.t23.desc := ⟨Try.underlying23⟩
instance ii23 : TI Try.prog 23 (Value.agg #[Value.int IntKind.i64 0, Value.string { data := #[] }, Value.int IntKind.i64 0, Value.int IntKind.i64 0, Value.slice none 0 0]) 5 64 := ⟨by kernel_rfl⟩
instance ib23 : BT Try.prog 23 [(0, 1), (1, 1), (2, 1), (3, 1), (4, 1)] := ⟨⟨_, Try.underlying23, by kernel_rfl⟩⟩
instance is23_0 : SF Try.prog 23 0 0 3 := ⟨⟨_, _, Try.underlying23, rfl, rfl, rfl⟩⟩
instance is23_1 : SF Try.prog 23 1 1 9 := ⟨⟨_, _, Try.underlying23, rfl, rfl, rfl⟩⟩
instance is23_2 : SF Try.prog 23 2 2 3 := ⟨⟨_, _, Try.underlying23, rfl, rfl, rfl⟩⟩
instance is23_3 : SF Try.prog 23 3 3 3 := ⟨⟨_, _, Try.underlying23, rfl, rfl, rfl⟩⟩
instance is23_4 : SF Try.prog 23 4 4 22 := ⟨⟨_, _, Try.underlying23, rfl, rfl, rfl⟩⟩
instance iu24 : UT Try.prog 24 Try.t23.desc := ⟨Try.underlying24⟩
instance ii24 : TI Try.prog 24 (Value.agg #[Value.int IntKind.i64 0, Value.string { data := #[] }, Value.int IntKind.i64 0, Value.int IntKind.i64 0, Value.slice none 0 0]) 5 64 := ⟨by kernel_rfl⟩
instance ib24 : BT Try.prog 24 [(0, 1), (1, 1), (2, 1), (3, 1), (4, 1)] := ⟨⟨_, Try.underlying24, by kernel_rfl⟩⟩
instance is24_0 : SF Try.prog 24 0 0 3 := ⟨⟨_, _, Try.underlying24, rfl, rfl, rfl⟩⟩
instance is24_1 : SF Try.prog 24 1 1 9 := ⟨⟨_, _, Try.underlying24, rfl, rfl, rfl⟩⟩
instance is24_2 : SF Try.prog 24 2 2 3 := ⟨⟨_, _, Try.underlying24, rfl, rfl, rfl⟩⟩
instance is24_3 : SF Try.prog 24 3 3 3 := ⟨⟨_, _, Try.underlying24, rfl, rfl, rfl⟩⟩
instance is24_4 : SF Try.prog 24 4 4 22 := ⟨⟨_, _, Try.underlying24, rfl, rfl, rfl⟩⟩
instance iu25 : UT Try.prog 25 (TypeDesc.slice 65) := ⟨Try.underlying25⟩
instance ii25 : TI Try.prog 25 (Value.slice none 0 0) 1 24 := ⟨by kernel_rfl⟩
instance iu26 : UT Try.prog 26 (TypeDesc.slice 48) := ⟨Try.underlying26⟩
instance ii26 : TI Try.prog 26 (Value.slice none 0 0) 1 24 := ⟨by kernel_rfl⟩
instance iu27 : UT Try.prog 27 Try.t27.desc := ⟨Try.underlying27⟩
instance ii27 : TI Try.prog 27 (Value.agg #[Value.int IntKind.i64 0, Value.string { data := #[] }, Value.int IntKind.i64 0, Value.int IntKind.i64 0, Value.slice none 0 0, Value.slice none 0 0, Value.slice none 0 0]) 7 112 := ⟨by kernel_rfl⟩
instance ib27 : BT Try.prog 27 [(0, 5), (5, 1), (6, 1)] := ⟨⟨_, Try.underlying27, by kernel_rfl⟩⟩
instance is27_0 : SF Try.prog 27 0 0 24 := ⟨⟨_, _, Try.underlying27, rfl, rfl, rfl⟩⟩
instance is27_1 : SF Try.prog 27 1 5 25 := ⟨⟨_, _, Try.underlying27, rfl, rfl, rfl⟩⟩
instance is27_2 : SF Try.prog 27 2 6 26 := ⟨⟨_, _, Try.underlying27, rfl, rfl, rfl⟩⟩
instance iu28 : UT Try.prog 28 Try.t27.desc := ⟨Try.underlying28⟩
instance ii28 : TI Try.prog 28 (Value.agg #[Value.int IntKind.i64 0, Value.string { data := #[] }, Value.int IntKind.i64 0, Value.int IntKind.i64 0, Value.slice none 0 0, Value.slice none 0 0, Value.slice none 0 0]) 7 112 := ⟨by kernel_rfl⟩
instance ib28 : BT Try.prog 28 [(0, 5), (5, 1), (6, 1)] := ⟨⟨_, Try.underlying28, by kernel_rfl⟩⟩
instance is28_0 : SF Try.prog 28 0 0 24 := ⟨⟨_, _, Try.underlying28, rfl, rfl, rfl⟩⟩
instance is28_1 : SF Try.prog 28 1 5 25 := ⟨⟨_, _, Try.underlying28, rfl, rfl, rfl⟩⟩
instance is28_2 : SF Try.prog 28 2 6 26 := ⟨⟨_, _, Try.underlying28, rfl, rfl, rfl⟩⟩
instance iu29 : UT Try.prog 29 Try.t29.desc := ⟨Try.underlying29⟩
instance ii29 : TI Try.prog 29 Value.nilFunc 1 8 := ⟨by kernel_rfl⟩
instance iu30 : UT Try.prog 30 Try.t30.desc := ⟨Try.underlying30⟩
instance ii30 : TI Try.prog 30 Value.nilFunc 1 8 := ⟨by kernel_rfl⟩
instance iu31 : UT Try.prog 31 Try.t31.desc := ⟨Try.underlying31⟩
instance ii31 : TI Try.prog 31 Value.nilFunc 1 8 := ⟨by kernel_rfl⟩
instance iu32 : UT Try.prog 32 Try.t32.desc := ⟨Try.underlying32⟩
instance ii32 : TI Try.prog 32 Value.nilFunc 1 8 := ⟨by kernel_rfl⟩
instance iu33 : UT Try.prog 33 Try.t33.desc := ⟨Try.underlying33⟩
instance ii33 : TI Try.prog 33 Value.nilFunc 1 8 := ⟨by kernel_rfl⟩
instance iu34 : UT Try.prog 34 Try.t34.desc := ⟨Try.underlying34⟩
instance ii34 : TI Try.prog 34 (Value.agg #[Value.int IntKind.i64 0, Value.int IntKind.i64 0]) 2 16 := ⟨by kernel_rfl⟩
instance ib34 : BT Try.prog 34 [(0, 1), (1, 1)] := ⟨⟨_, Try.underlying34, by kernel_rfl⟩⟩
instance is34_0 : SF Try.prog 34 0 0 3 := ⟨⟨_, _, Try.underlying34, rfl, rfl, rfl⟩⟩
instance is34_1 : SF Try.prog 34 1 1 3 := ⟨⟨_, _, Try.underlying34, rfl, rfl, rfl⟩⟩
instance iu35 : UT Try.prog 35 Try.t34.desc := ⟨Try.underlying35⟩
instance ii35 : TI Try.prog 35 (Value.agg #[Value.int IntKind.i64 0, Value.int IntKind.i64 0]) 2 16 := ⟨by kernel_rfl⟩
instance ib35 : BT Try.prog 35 [(0, 1), (1, 1)] := ⟨⟨_, Try.underlying35, by kernel_rfl⟩⟩
instance is35_0 : SF Try.prog 35 0 0 3 := ⟨⟨_, _, Try.underlying35, rfl, rfl, rfl⟩⟩
instance is35_1 : SF Try.prog 35 1 1 3 := ⟨⟨_, _, Try.underlying35, rfl, rfl, rfl⟩⟩
instance iu36 : UT Try.prog 36 Try.t36.desc := ⟨Try.underlying36⟩
instance ii36 : TI Try.prog 36 (Value.tuple #[Value.agg #[Value.int IntKind.i64 0, Value.int IntKind.i64 0], Value.bool false]) 1 0 := ⟨by kernel_rfl⟩
instance iu37 : UT Try.prog 37 Try.t37.desc := ⟨Try.underlying37⟩
instance ii37 : TI Try.prog 37 Value.nilFunc 1 8 := ⟨by kernel_rfl⟩
instance iu38 : UT Try.prog 38 Try.t38.desc := ⟨Try.underlying38⟩
instance ii38 : TI Try.prog 38 Value.nilFunc 1 8 := ⟨by kernel_rfl⟩
instance iu39 : UT Try.prog 39 Try.t39.desc := ⟨Try.underlying39⟩
instance ii39 : TI Try.prog 39 Value.nilFunc 1 8 := ⟨by kernel_rfl⟩
instance iu40 : UT Try.prog 40 Try.t40.desc := ⟨Try.underlying40⟩
instance ii40 : TI Try.prog 40 Value.nilFunc 1 8 := ⟨by kernel_rfl⟩
instance iu41 : UT Try.prog 41 Try.t41.desc := ⟨Try.underlying41⟩
instance ii41 : TI Try.prog 41 Value.nilFunc 1 8 := ⟨by kernel_rfl⟩
instance iu42 : UT Try.prog 42 Try.t42.desc := ⟨Try.underlying42⟩
instance ii42 : TI Try.prog 42 Value.nilFunc 1 8 := ⟨by kernel_rfl⟩
instance iu43 : UT Try.prog 43 Try.t43.desc := ⟨Try.underlying43⟩
instance ii43 : TI Try.prog 43 Value.nilFunc 1 8 := ⟨by kernel_rfl⟩
instance iu44 : UT Try.prog 44 (TypeDesc.slice 9) := ⟨Try.underlying44⟩
instance ii44 : TI Try.prog 44 (Value.slice none 0 0) 1 24 := ⟨by kernel_rfl⟩
instance iu45 : UT Try.prog 45 Try.t45.desc := ⟨Try.underlying45⟩
instance ii45 : TI Try.prog 45 Value.nilFunc 1 8 := ⟨by kernel_rfl⟩
instance iu46 : UT Try.prog 46 Try.t46.desc := ⟨Try.underlying46⟩
instance ii46 : TI Try.prog 46 Value.nilFunc 1 8 := ⟨by kernel_rfl⟩
instance iu47 : UT Try.prog 47 Try.t47.desc := ⟨Try.underlying47⟩
instance ii47 : TI Try.prog 47 (Value.agg #[Value.int IntKind.i64 0, Value.int IntKind.i64 0, Value.int IntKind.i64 0, Value.int IntKind.i64 0, Value.int IntKind.i64 0, Value.int IntKind.i64 0, Value.string { data := #[] }]) 7 64 := ⟨by kernel_rfl⟩
instance ib47 : BT Try.prog 47 [(0, 1), (1, 1), (2, 1), (3, 2), (5, 1), (6, 1)] := ⟨⟨_, Try.underlying47, by kernel_rfl⟩⟩
instance is47_0 : SF Try.prog 47 0 0 3 := ⟨⟨_, _, Try.underlying47, rfl, rfl, rfl⟩⟩
instance is47_1 : SF Try.prog 47 1 1 3 := ⟨⟨_, _, Try.underlying47, rfl, rfl, rfl⟩⟩
instance is47_2 : SF Try.prog 47 2 2 3 := ⟨⟨_, _, Try.underlying47, rfl, rfl, rfl⟩⟩
instance is47_3 : SF Try.prog 47 3 3 35 := ⟨⟨_, _, Try.underlying47, rfl, rfl, rfl⟩⟩
instance is47_4 : SF Try.prog 47 4 5 3 := ⟨⟨_, _, Try.underlying47, rfl, rfl, rfl⟩⟩
instance is47_5 : SF Try.prog 47 5 6 9 := ⟨⟨_, _, Try.underlying47, rfl, rfl, rfl⟩⟩
instance iu48 : UT Try.prog 48 Try.t47.desc := ⟨Try.underlying48⟩
instance ii48 : TI Try.prog 48 (Value.agg #[Value.int IntKind.i64 0, Value.int IntKind.i64 0, Value.int IntKind.i64 0, Value.int IntKind.i64 0, Value.int IntKind.i64 0, Value.int IntKind.i64 0, Value.string { data := #[] }]) 7 64 := ⟨by kernel_rfl⟩
instance ib48 : BT Try.prog 48 [(0, 1), (1, 1), (2, 1), (3, 2), (5, 1), (6, 1)] := ⟨⟨_, Try.underlying48, by kernel_rfl⟩⟩
instance is48_0 : SF Try.prog 48 0 0 3 := ⟨⟨_, _, Try.underlying48, rfl, rfl, rfl⟩⟩
instance is48_1 : SF Try.prog 48 1 1 3 := ⟨⟨_, _, Try.underlying48, rfl, rfl, rfl⟩⟩
instance is48_2 : SF Try.prog 48 2 2 3 := ⟨⟨_, _, Try.underlying48, rfl, rfl, rfl⟩⟩
instance is48_3 : SF Try.prog 48 3 3 35 := ⟨⟨_, _, Try.underlying48, rfl, rfl, rfl⟩⟩
instance is48_4 : SF Try.prog 48 4 5 3 := ⟨⟨_, _, Try.underlying48, rfl, rfl, rfl⟩⟩
instance is48_5 : SF Try.prog 48 5 6 9 := ⟨⟨_, _, Try.underlying48, rfl, rfl, rfl⟩⟩
instance iu49 : UT Try.prog 49 Try.t49.desc := ⟨Try.underlying49⟩
instance ii49 : TI Try.prog 49 Value.nilFunc 1 8 := ⟨by kernel_rfl⟩
instance iu50 : UT Try.prog 50 Try.t50.desc := ⟨Try.underlying50⟩
instance ii50 : TI Try.prog 50 Value.nilFunc 1 8 := ⟨by kernel_rfl⟩
instance iu51 : UT Try.prog 51 Try.t51.desc := ⟨Try.underlying51⟩
instance ii51 : TI Try.prog 51 (Value.tuple #[Value.agg #[Value.int IntKind.i64 0, Value.int IntKind.i64 0, Value.int IntKind.i64 0, Value.int IntKind.i64 0, Value.int IntKind.i64 0, Value.int IntKind.i64 0, Value.string { data := #[] }], Value.bool false]) 1 0 := ⟨by kernel_rfl⟩
instance iu52 : UT Try.prog 52 Try.t52.desc := ⟨Try.underlying52⟩
instance ii52 : TI Try.prog 52 Value.nilFunc 1 8 := ⟨by kernel_rfl⟩
instance iu53 : UT Try.prog 53 Try.t53.desc := ⟨Try.underlying53⟩
instance ii53 : TI Try.prog 53 Value.nilFunc 1 8 := ⟨by kernel_rfl⟩
instance iu54 : UT Try.prog 54 Try.t54.desc := ⟨Try.underlying54⟩
instance ii54 : TI Try.prog 54 Value.nilFunc 1 8 := ⟨by kernel_rfl⟩
instance iu55 : UT Try.prog 55 (TypeDesc.int IntKind.i64) := ⟨Try.underlying55⟩
instance ii55 : TI Try.prog 55 (Value.int IntKind.i64 0) 1 8 := ⟨by kernel_rfl⟩
instance iu56 : UT Try.prog 56 Try.t56.desc := ⟨Try.underlying56⟩
instance ii56 : TI Try.prog 56 Value.nilFunc 1 8 := ⟨by kernel_rfl⟩
instance iu57 : UT Try.prog 57 Try.t57.desc := ⟨Try.underlying57⟩
instance ii57 : TI Try.prog 57 Value.nilFunc 1 8 := ⟨by kernel_rfl⟩
instance iu58 : UT Try.prog 58 (TypeDesc.map 3 22) := ⟨Try.underlying58⟩
instance ii58 : TI Try.prog 58 (Value.map none) 1 8 := ⟨by kernel_rfl⟩
instance iu59 : UT Try.prog 59 Try.t59.desc := ⟨Try.underlying59⟩
instance ii59 : TI Try.prog 59 Value.nilFunc 1 8 := ⟨by kernel_rfl⟩
instance iu60 : UT Try.prog 60 Try.t60.desc := ⟨Try.underlying60⟩
instance ii60 : TI Try.prog 60 Value.nilFunc 1 8 := ⟨by kernel_rfl⟩
instance iu61 : UT Try.prog 61 Try.t61.desc := ⟨Try.underlying61⟩
instance ii61 : TI Try.prog 61 Value.nilFunc 1 8 := ⟨by kernel_rfl⟩
instance iu62 : UT Try.prog 62 Try.t62.desc := ⟨Try.underlying62⟩
instance ii62 : TI Try.prog 62 Value.nilFunc 1 8 := ⟨by kernel_rfl⟩
instance iu63 : UT Try.prog 63 Try.t63.desc := ⟨Try.underlying63⟩
instance ii63 : TI Try.prog 63 Value.nilFunc 1 8 := ⟨by kernel_rfl⟩
instance iu64 : UT Try.prog 64 Try.t64.desc := ⟨Try.underlying64⟩
instance ii64 : TI Try.prog 64 (Value.agg #[Value.string { data := #[] }, Value.int IntKind.i64 0, Value.int IntKind.i64 0, Value.int IntKind.i64 0]) 4 40 := ⟨by kernel_rfl⟩
instance ib64 : BT Try.prog 64 [(0, 1), (1, 1), (2, 1), (3, 1)] := ⟨⟨_, Try.underlying64, by kernel_rfl⟩⟩
instance is64_0 : SF Try.prog 64 0 0 9 := ⟨⟨_, _, Try.underlying64, rfl, rfl, rfl⟩⟩
instance is64_1 : SF Try.prog 64 1 1 3 := ⟨⟨_, _, Try.underlying64, rfl, rfl, rfl⟩⟩
instance is64_2 : SF Try.prog 64 2 2 3 := ⟨⟨_, _, Try.underlying64, rfl, rfl, rfl⟩⟩
instance is64_3 : SF Try.prog 64 3 3 3 := ⟨⟨_, _, Try.underlying64, rfl, rfl, rfl⟩⟩
instance iu65 : UT Try.prog 65 Try.t64.desc := ⟨Try.underlying65⟩
instance ii65 : TI Try.prog 65 (Value.agg #[Value.string { data := #[] }, Value.int IntKind.i64 0, Value.int IntKind.i64 0, Value.int IntKind.i64 0]) 4 40 := ⟨by kernel_rfl⟩
instance ib65 : BT Try.prog 65 [(0, 1), (1, 1), (2, 1), (3, 1)] := ⟨⟨_, Try.underlying65, by kernel_rfl⟩⟩
instance is65_0 : SF Try.prog 65 0 0 9 := ⟨⟨_, _, Try.underlying65, rfl, rfl, rfl⟩⟩
instance is65_1 : SF Try.prog 65 1 1 3 := ⟨⟨_, _, Try.underlying65, rfl, rfl, rfl⟩⟩
instance is65_2 : SF Try.prog 65 2 2 3 := ⟨⟨_, _, Try.underlying65, rfl, rfl, rfl⟩⟩
instance is65_3 : SF Try.prog 65 3 3 3 := ⟨⟨_, _, Try.underlying65, rfl, rfl, rfl⟩⟩
instance iu66 : UT Try.prog 66 Try.t66.desc := ⟨Try.underlying66⟩
instance ii66 : TI Try.prog 66 Value.nilFunc 1 8 := ⟨by kernel_rfl⟩
instance iu67 : UT Try.prog 67 Try.t67.desc := ⟨Try.underlying67⟩
instance ii67 : TI Try.prog 67 Value.nilFunc 1 8 := ⟨by kernel_rfl⟩
instance iu68 : UT Try.prog 68 Try.t68.desc := ⟨Try.underlying68⟩
instance ii68 : TI Try.prog 68 Value.nilFunc 1 8 := ⟨by kernel_rfl⟩
instance iu69 : UT Try.prog 69 Try.t69.desc := ⟨Try.underlying69⟩
instance ii69 : TI Try.prog 69 Value.nilFunc 1 8 := ⟨by kernel_rfl⟩
instance iu70 : UT Try.prog 70 Try.t70.desc := ⟨Try.underlying70⟩
instance ii70 : TI Try.prog 70 Value.nilFunc 1 8 := ⟨by kernel_rfl⟩
instance iu71 : UT Try.prog 71 Try.t70.desc := ⟨Try.underlying71⟩
instance ii71 : TI Try.prog 71 Value.nilFunc 1 8 := ⟨by kernel_rfl⟩
instance iu72 : UT Try.prog 72 Try.t72.desc := ⟨Try.underlying72⟩
instance ii72 : TI Try.prog 72 Value.nilFunc 1 8 := ⟨by kernel_rfl⟩
instance iu73 : UT Try.prog 73 Try.t73.desc := ⟨Try.underlying73⟩
instance ii73 : TI Try.prog 73 Value.nilFunc 1 8 := ⟨by kernel_rfl⟩
instance iu74 : UT Try.prog 74 Try.t74.desc := ⟨Try.underlying74⟩
instance ii74 : TI Try.prog 74 Value.nilFunc 1 8 := ⟨by kernel_rfl⟩
instance iu75 : UT Try.prog 75 Try.t75.desc := ⟨Try.underlying75⟩
instance ii75 : TI Try.prog 75 Value.nilFunc 1 8 := ⟨by kernel_rfl⟩
instance iu76 : UT Try.prog 76 Try.t76.desc := ⟨Try.underlying76⟩
instance ii76 : TI Try.prog 76 Value.nilFunc 1 8 := ⟨by kernel_rfl⟩
instance iu77 : UT Try.prog 77 Try.t77.desc := ⟨Try.underlying77⟩
instance ii77 : TI Try.prog 77 Value.nilFunc 1 8 := ⟨by kernel_rfl⟩
instance iu78 : UT Try.prog 78 Try.t78.desc := ⟨Try.underlying78⟩
instance ii78 : TI Try.prog 78 Value.nilFunc 1 8 := ⟨by kernel_rfl⟩
instance iu79 : UT Try.prog 79 Try.t79.desc := ⟨Try.underlying79⟩
instance ii79 : TI Try.prog 79 Value.nilFunc 1 8 := ⟨by kernel_rfl⟩
instance iu80 : UT Try.prog 80 Try.t80.desc := ⟨Try.underlying80⟩
instance ii80 : TI Try.prog 80 Value.nilFunc 1 8 := ⟨by kernel_rfl⟩
instance iu81 : UT Try.prog 81 Try.t81.desc := ⟨Try.underlying81⟩
instance ii81 : TI Try.prog 81 Value.nilFunc 1 8 := ⟨by kernel_rfl⟩
instance iu82 : UT Try.prog 82 (TypeDesc.slice 35) := ⟨Try.underlying82⟩
instance ii82 : TI Try.prog 82 (Value.slice none 0 0) 1 24 := ⟨by kernel_rfl⟩
instance iu83 : UT Try.prog 83 Try.t83.desc := ⟨Try.underlying83⟩
instance ii83 : TI Try.prog 83 Value.nilFunc 1 8 := ⟨by kernel_rfl⟩
instance iu84 : UT Try.prog 84 Try.t84.desc := ⟨Try.underlying84⟩
instance ii84 : TI Try.prog 84 Value.nilFunc 1 8 := ⟨by kernel_rfl⟩
instance iu85 : UT Try.prog 85 Try.t85.desc := ⟨Try.underlying85⟩
instance ii85 : TI Try.prog 85 Value.nilFunc 1 8 := ⟨by kernel_rfl⟩
instance iu86 : UT Try.prog 86 Try.t86.desc := ⟨Try.underlying86⟩
instance ii86 : TI Try.prog 86 Value.nilFunc 1 8 := ⟨by kernel_rfl⟩
instance iu87 : UT Try.prog 87 Try.t87.desc := ⟨Try.underlying87⟩
instance ii87 : TI Try.prog 87 Value.nilFunc 1 8 := ⟨by kernel_rfl⟩
instance iu88 : UT Try.prog 88 Try.t88.desc := ⟨Try.underlying88⟩
instance ii88 : TI Try.prog 88 Value.nilFunc 1 8 := ⟨by kernel_rfl⟩
instance iu89 : UT Try.prog 89 Try.t89.desc := ⟨Try.underlying89⟩
instance ii89 : TI Try.prog 89 Value.nilFunc 1 8 := ⟨by kernel_rfl⟩
instance iu90 : UT Try.prog 90 Try.t90.desc := ⟨Try.underlying90⟩
instance ii90 : TI Try.prog 90 Value.nilFunc 1 8 := ⟨by kernel_rfl⟩
instance iu91 : UT Try.prog 91 Try.t91.desc := ⟨Try.underlying91⟩
instance ii91 : TI Try.prog 91 (Value.tuple #[Value.slice none 0 0, Value.bool false]) 1 0 := ⟨by kernel_rfl⟩
instance iu92 : UT Try.prog 92 Try.t92.desc := ⟨Try.underlying92⟩
instance ii92 : TI Try.prog 92 Value.nilFunc 1 8 := ⟨by kernel_rfl⟩
instance iu93 : UT Try.prog 93 Try.t93.desc := ⟨Try.underlying93⟩
instance ii93 : TI Try.prog 93 Value.nilFunc 1 8 := ⟨by kernel_rfl⟩
instance iu94 : UT Try.prog 94 Try.t94.desc := ⟨Try.underlying94⟩
instance ii94 : TI Try.prog 94 Value.nilFunc 1 8 := ⟨by kernel_rfl⟩
instance iu95 : UT Try.prog 95 Try.t95.desc := ⟨Try.underlying95⟩
instance ii95 : TI Try.prog 95 Value.nilFunc 1 8 := ⟨by kernel_rfl⟩
instance iu96 : UT Try.prog 96 Try.t96.desc := ⟨Try.underlying96⟩
instance ii96 : TI Try.prog 96 Value.nilFunc 1 8 := ⟨by kernel_rfl⟩
instance iu97 : UT Try.prog 97 (TypeDesc.int IntKind.u64) := ⟨Try.underlying97⟩
instance ii97 : TI Try.prog 97 (Value.int IntKind.u64 0) 1 8 := ⟨by kernel_rfl⟩
instance iu98 : UT Try.prog 98 Try.t98.desc := ⟨Try.underlying98⟩
instance ii98 : TI Try.prog 98 Value.nilFunc 1 8 := ⟨by kernel_rfl⟩
instance iu99 : UT Try.prog 99 Try.t99.desc := ⟨Try.underlying99⟩
instance ii99 : TI Try.prog 99 Value.nilFunc 1 8 := ⟨by kernel_rfl⟩
instance iu100 : UT Try.prog 100 Try.t100.desc := ⟨Try.underlying100⟩
instance ii100 : TI Try.prog 100 (Value.tuple #[Value.int IntKind.i64 0, Value.int IntKind.i64 0]) 1 0 := ⟨by kernel_rfl⟩
instance iu101 : UT Try.prog 101 Try.t101.desc := ⟨Try.underlying101⟩
instance ii101 : TI Try.prog 101 Value.nilFunc 1 8 := ⟨by kernel_rfl⟩
instance iu102 : UT Try.prog 102 Try.t102.desc := ⟨Try.underlying102⟩
instance ii102 : TI Try.prog 102 Value.nilFunc 1 8 := ⟨by kernel_rfl⟩
instance iu103 : UT Try.prog 103 Try.t103.desc := ⟨Try.underlying103⟩
instance ii103 : TI Try.prog 103 Value.nilFunc 1 8 := ⟨by kernel_rfl⟩
instance iu104 : UT Try.prog 104 Try.t104.desc := ⟨Try.underlying104⟩
instance ii104 : TI Try.prog 104 Value.nilFunc 1 8 := ⟨by kernel_rfl⟩
instance iu105 : UT Try.prog 105 (TypeDesc.int IntKind.i64) := ⟨Try.underlying105⟩
instance ii105 : TI Try.prog 105 (Value.int IntKind.i64 0) 1 8 := ⟨by kernel_rfl⟩
instance iu106 : UT Try.prog 106 Try.t106.desc := ⟨Try.underlying106⟩
instance ii106 : TI Try.prog 106 (Value.tuple #[Value.int IntKind.i64 0, Value.int IntKind.i64 0]) 1 0 := ⟨by kernel_rfl⟩
instance iu107 : UT Try.prog 107 Try.t107.desc := ⟨Try.underlying107⟩
instance ii107 : TI Try.prog 107 Value.nilFunc 1 8 := ⟨by kernel_rfl⟩
instance iu108 : UT Try.prog 108 Try.t108.desc := ⟨Try.underlying108⟩
instance ii108 : TI Try.prog 108 Value.nilFunc 1 8 := ⟨by kernel_rfl⟩
instance iu109 : UT Try.prog 109 Try.t109.desc := ⟨Try.underlying109⟩
instance ii109 : TI Try.prog 109 Value.nilFunc 1 8 := ⟨by kernel_rfl⟩
instance iu110 : UT Try.prog 110 Try.t110.desc := ⟨Try.underlying110⟩
instance ii110 : TI Try.prog 110 Value.nilFunc 1 8 := ⟨by kernel_rfl⟩
instance iu111 : UT Try.prog 111 Try.t111.desc := ⟨Try.underlying111⟩
instance ii111 : TI Try.prog 111 (Value.tuple #[Value.int IntKind.i64 0, Value.bool false]) 1 0 := ⟨by kernel_rfl⟩
instance iu112 : UT Try.prog 112 Try.t112.desc := ⟨Try.underlying112⟩
instance ii112 : TI Try.prog 112 Value.nilFunc 1 8 := ⟨by kernel_rfl⟩
instance iu113 : UT Try.prog 113 Try.t113.desc := ⟨Try.underlying113⟩
instance ii113 : TI Try.prog 113 Value.nilFunc 1 8 := ⟨by kernel_rfl⟩
instance iu114 : UT Try.prog 114 (TypeDesc.int IntKind.u32) := ⟨Try.underlying114⟩
instance ii114 : TI Try.prog 114 (Value.int IntKind.u32 0) 1 4 := ⟨by kernel_rfl⟩
instance iu115 : UT Try.prog 115 Try.t115.desc := ⟨Try.underlying115⟩
instance ii115 : TI Try.prog 115 Value.nilFunc 1 8 := ⟨by kernel_rfl⟩
instance iu116 : UT Try.prog 116 (TypeDesc.int IntKind.u64) := ⟨Try.underlying116⟩
instance ii116 : TI Try.prog 116 (Value.int IntKind.u64 0) 1 8 := ⟨by kernel_rfl⟩
instance iu117 : UT Try.prog 117 Try.t117.desc := ⟨Try.underlying117⟩
instance ii117 : TI Try.prog 117 Value.nilFunc 1 8 := ⟨by kernel_rfl⟩
instance iu118 : UT Try.prog 118 (TypeDesc.int IntKind.u64) := ⟨Try.underlying118⟩
instance ii118 : TI Try.prog 118 (Value.int IntKind.u64 0) 1 8 := ⟨by kernel_rfl⟩
instance iu119 : UT Try.prog 119 Try.t119.desc := ⟨Try.underlying119⟩
instance ii119 : TI Try.prog 119 Value.nilFunc 1 8 := ⟨by kernel_rfl⟩
instance iu120 : UT Try.prog 120 Try.t120.desc := ⟨Try.underlying120⟩
instance ii120 : TI Try.prog 120 Value.nilFunc 1 8 := ⟨by kernel_rfl⟩
instance iu121 : UT Try.prog 121 Try.t121.desc := ⟨Try.underlying121⟩
instance ii121 : TI Try.prog 121 Value.nilFunc 1 8 := ⟨by kernel_rfl⟩
instance iu122 : UT Try.prog 122 (TypeDesc.pointer 3) := ⟨Try.underlying122⟩
instance ii122 : TI Try.prog 122 (Value.pointer none) 1 8 := ⟨by kernel_rfl⟩
instance iu123 : UT Try.prog 123 Try.t123.desc := ⟨Try.underlying123⟩
instance ii123 : TI Try.prog 123 Value.nilFunc 1 8 := ⟨by kernel_rfl⟩
instance iu124 : UT Try.prog 124 (TypeDesc.slice 5) := ⟨Try.underlying124⟩
instance ii124 : TI Try.prog 124 (Value.slice none 0 0) 1 24 := ⟨by kernel_rfl⟩
instance iu125 : UT Try.prog 125 (TypeDesc.pointer 118) := ⟨Try.underlying125⟩
instance ii125 : TI Try.prog 125 (Value.pointer none) 1 8 := ⟨by kernel_rfl⟩
instance iu126 : UT Try.prog 126 Try.t126.desc := ⟨Try.underlying126⟩
instance ii126 : TI Try.prog 126 Value.nilFunc 1 8 := ⟨by kernel_rfl⟩
instance iu127 : UT Try.prog 127 Try.t127.desc := ⟨Try.underlying127⟩
instance ii127 : TI Try.prog 127 Value.nilFunc 1 8 := ⟨by kernel_rfl⟩
instance iu128 : UT Try.prog 128 Try.t128.desc := ⟨Try.underlying128⟩
instance ii128 : TI Try.prog 128 (Value.agg #[Value.pointer none, Value.pointer none, Value.pointer none, Value.string { data := #[] }]) 4 40 := ⟨by kernel_rfl⟩
instance ib128 : BT Try.prog 128 [(0, 1), (1, 1), (2, 1), (3, 1)] := ⟨⟨_, Try.underlying128, by kernel_rfl⟩⟩
instance is128_0 : SF Try.prog 128 0 0 17 := ⟨⟨_, _, Try.underlying128, rfl, rfl, rfl⟩⟩
instance is128_1 : SF Try.prog 128 1 1 17 := ⟨⟨_, _, Try.underlying128, rfl, rfl, rfl⟩⟩
instance is128_2 : SF Try.prog 128 2 2 17 := ⟨⟨_, _, Try.underlying128, rfl, rfl, rfl⟩⟩
instance is128_3 : SF Try.prog 128 3 3 9 := ⟨⟨_, _, Try.underlying128, rfl, rfl, rfl⟩⟩
instance iu129 : UT Try.prog 129 Try.t128.desc := ⟨Try.underlying129⟩
instance ii129 : TI Try.prog 129 (Value.agg #[Value.pointer none, Value.pointer none, Value.pointer none, Value.string { data := #[] }]) 4 40 := ⟨by kernel_rfl⟩
instance ib129 : BT Try.prog 129 [(0, 1), (1, 1), (2, 1), (3, 1)] := ⟨⟨_, Try.underlying129, by kernel_rfl⟩⟩
instance is129_0 : SF Try.prog 129 0 0 17 := ⟨⟨_, _, Try.underlying129, rfl, rfl, rfl⟩⟩
instance is129_1 : SF Try.prog 129 1 1 17 := ⟨⟨_, _, Try.underlying129, rfl, rfl, rfl⟩⟩
instance is129_2 : SF Try.prog 129 2 2 17 := ⟨⟨_, _, Try.underlying129, rfl, rfl, rfl⟩⟩
instance is129_3 : SF Try.prog 129 3 3 9 := ⟨⟨_, _, Try.underlying129, rfl, rfl, rfl⟩⟩
instance iu130 : UT Try.prog 130 (TypeDesc.array 0 16) := ⟨Try.underlying130⟩
instance ii130 : TI Try.prog 130 (Value.agg #[]) 0 0 := ⟨by kernel_rfl⟩
instance iu131 : UT Try.prog 131 Try.t131.desc := ⟨Try.underlying131⟩
instance ii131 : TI Try.prog 131 (Value.agg #[]) 0 0 := ⟨by kernel_rfl⟩
instance ib131 : BT Try.prog 131 [(0, 0)] := ⟨⟨_, Try.underlying131, by kernel_rfl⟩⟩
instance is131_0 : SF Try.prog 131 0 0 130 := ⟨⟨_, _, Try.underlying131, rfl, rfl, rfl⟩⟩
instance iu132 : UT Try.prog 132 Try.t131.desc := ⟨Try.underlying132⟩
instance ii132 : TI Try.prog 132 (Value.agg #[]) 0 0 := ⟨by kernel_rfl⟩
instance ib132 : BT Try.prog 132 [(0, 0)] := ⟨⟨_, Try.underlying132, by kernel_rfl⟩⟩
instance is132_0 : SF Try.prog 132 0 0 130 := ⟨⟨_, _, Try.underlying132, rfl, rfl, rfl⟩⟩
instance iu133 : UT Try.prog 133 Try.t133.desc := ⟨Try.underlying133⟩
instance ii133 : TI Try.prog 133 Value.nilFunc 1 8 := ⟨by kernel_rfl⟩
instance iu134 : UT Try.prog 134 (TypeDesc.int IntKind.u8) := ⟨Try.underlying134⟩
instance ii134 : TI Try.prog 134 (Value.int IntKind.u8 0) 1 1 := ⟨by kernel_rfl⟩
instance iu135 : UT Try.prog 135 (TypeDesc.int IntKind.u8) := ⟨Try.underlying135⟩
instance ii135 : TI Try.prog 135 (Value.int IntKind.u8 0) 1 1 := ⟨by kernel_rfl⟩
instance iu136 : UT Try.prog 136 Try.t136.desc := ⟨Try.underlying136⟩
instance ii136 : TI Try.prog 136 Value.nilFunc 1 8 := ⟨by kernel_rfl⟩
instance iu137 : UT Try.prog 137 (TypeDesc.pointer 5) := ⟨Try.underlying137⟩
instance ii137 : TI Try.prog 137 (Value.pointer none) 1 8 := ⟨by kernel_rfl⟩
instance iu138 : UT Try.prog 138 (TypeDesc.int IntKind.i32) := ⟨Try.underlying138⟩
instance ii138 : TI Try.prog 138 (Value.int IntKind.i32 0) 1 4 := ⟨by kernel_rfl⟩
instance iu139 : UT Try.prog 139 (TypeDesc.int IntKind.i32) := ⟨Try.underlying139⟩
instance ii139 : TI Try.prog 139 (Value.int IntKind.i32 0) 1 4 := ⟨by kernel_rfl⟩
theorem en3 : ∀ args w, (Go.callFunc 3 args).run Try.prog w = .ok (.enter 3 args) w := enters_fn Try.func3 (by kernel_rfl) rfl
theorem en4 : ∀ args w, (Go.callFunc 4 args).run Try.prog w = .ok (.enter 4 args) w := enters_fn Try.func4 (by kernel_rfl) rfl
theorem en5 : ∀ args w, (Go.callFunc 5 args).run Try.prog w = .ok (.enter 5 args) w := enters_fn Try.func5 (by kernel_rfl) rfl
theorem en6 : ∀ args w, (Go.callFunc 6 args).run Try.prog w = .ok (.enter 6 args) w := enters_fn Try.func6 (by kernel_rfl) rfl
theorem en7 : ∀ args w, (Go.callFunc 7 args).run Try.prog w = .ok (.enter 7 args) w := enters_fn Try.func7 (by kernel_rfl) rfl
theorem en8 : ∀ args w, (Go.callFunc 8 args).run Try.prog w = .ok (.enter 8 args) w := enters_fn Try.func8 (by kernel_rfl) rfl
theorem en9 : ∀ args w, (Go.callFunc 9 args).run Try.prog w = .ok (.enter 9 args) w := enters_fn Try.func9 (by kernel_rfl) rfl
theorem en10 : ∀ args w, (Go.callFunc 10 args).run Try.prog w = .ok (.enter 10 args) w := enters_fn Try.func10 (by kernel_rfl) rfl
theorem en11 : ∀ args w, (Go.callFunc 11 args).run Try.prog w = .ok (.enter 11 args) w := enters_fn Try.func11 (by kernel_rfl) rfl
theorem en12 : ∀ args w, (Go.callFunc 12 args).run Try.prog w = .ok (.enter 12 args) w := enters_fn Try.func12 (by kernel_rfl) rfl
theorem en13 : ∀ args w, (Go.callFunc 13 args).run Try.prog w = .ok (.enter 13 args) w := enters_fn Try.func13 (by kernel_rfl) rfl
theorem en14 : ∀ args w, (Go.callFunc 14 args).run Try.prog w = .ok (.enter 14 args) w := enters_fn Try.func14 (by kernel_rfl) rfl
theorem en15 : ∀ args w, (Go.callFunc 15 args).run Try.prog w = .ok (.enter 15 args) w := enters_fn Try.func15 (by kernel_rfl) rfl
theorem en16 : ∀ args w, (Go.callFunc 16 args).run Try.prog w = .ok (.enter 16 args) w := enters_fn Try.func16 (by kernel_rfl) rfl
theorem en17 : ∀ args w, (Go.callFunc 17 args).run Try.prog w = .ok (.enter 17 args) w := enters_fn Try.func17 (by kernel_rfl) rfl
theorem en18 : ∀ args w, (Go.callFunc 18 args).run Try.prog w = .ok (.enter 18 args) w := enters_fn Try.func18 (by kernel_rfl) rfl
theorem en19 : ∀ args w, (Go.callFunc 19 args).run Try.prog w = .ok (.enter 19 args) w := enters_fn Try.func19 (by kernel_rfl) rfl
theorem en20 : ∀ args w, (Go.callFunc 20 args).run Try.prog w = .ok (.enter 20 args) w := enters_fn Try.func20 (by kernel_rfl) rfl
theorem en21 : ∀ args w, (Go.callFunc 21 args).run Try.prog w = .ok (.enter 21 args) w := enters_fn Try.func21 (by kernel_rfl) rfl
theorem en22 : ∀ args w, (Go.callFunc 22 args).run Try.prog w = .ok (.enter 22 args) w := enters_fn Try.func22 (by kernel_rfl) rfl
theorem en23 : ∀ args w, (Go.callFunc 23 args).run Try.prog w = .ok (.enter 23 args) w := enters_fn Try.func23 (by kernel_rfl) rfl
theorem en24 : ∀ args w, (Go.callFunc 24 args).run Try.prog w = .ok (.enter 24 args) w := enters_fn Try.func24 (by kernel_rfl) rfl
theorem en25 : ∀ args w, (Go.callFunc 25 args).run Try.prog w = .ok (.enter 25 args) w := enters_fn Try.func25 (by kernel_rfl) rfl
theorem en26 : ∀ args w, (Go.callFunc 26 args).run Try.prog w = .ok (.enter 26 args) w := enters_fn Try.func26 (by kernel_rfl) rfl
theorem en27 : ∀ args w, (Go.callFunc 27 args).run Try.prog w = .ok (.enter 27 args) w := enters_fn Try.func27 (by kernel_rfl) rfl
theorem en28 : ∀ args w, (Go.callFunc 28 args).run Try.prog w = .ok (.enter 28 args) w := enters_fn Try.func28 (by kernel_rfl) rfl
theorem en29 : ∀ args w, (Go.callFunc 29 args).run Try.prog w = .ok (.enter 29 args) w := enters_fn Try.func29 (by kernel_rfl) rfl
theorem en30 : ∀ args w, (Go.callFunc 30 args).run Try.prog w = .ok (.enter 30 args) w := enters_fn Try.func30 (by kernel_rfl) rfl
theorem en31 : ∀ args w, (Go.callFunc 31 args).run Try.prog w = .ok (.enter 31 args) w := enters_fn Try.func31 (by kernel_rfl) rfl
theorem en32 : ∀ args w, (Go.callFunc 32 args).run Try.prog w = .ok (.enter 32 args) w := enters_fn Try.func32 (by kernel_rfl) rfl
theorem en33 : ∀ args w, (Go.callFunc 33 args).run Try.prog w = .ok (.enter 33 args) w := enters_fn Try.func33 (by kernel_rfl) rfl
theorem en34 : ∀ args w, (Go.callFunc 34 args).run Try.prog w = .ok (.enter 34 args) w := enters_fn Try.func34 (by kernel_rfl) rfl
theorem en35 : ∀ args w, (Go.callFunc 35 args).run Try.prog w = .ok (.enter 35 args) w := enters_fn Try.func35 (by kernel_rfl) rfl
theorem en36 : ∀ args w, (Go.callFunc 36 args).run Try.prog w = .ok (.enter 36 args) w := enters_fn Try.func36 (by kernel_rfl) rfl
theorem en37 : ∀ args w, (Go.callFunc 37 args).run Try.prog w = .ok (.enter 37 args) w := enters_fn Try.func37 (by kernel_rfl) rfl
theorem en38 : ∀ args w, (Go.callFunc 38 args).run Try.prog w = .ok (.enter 38 args) w := enters_fn Try.func38 (by kernel_rfl) rfl
theorem en39 : ∀ args w, (Go.callFunc 39 args).run Try.prog w = .ok (.enter 39 args) w := enters_fn Try.func39 (by kernel_rfl) rfl
theorem en40 : ∀ args w, (Go.callFunc 40 args).run Try.prog w = .ok (.enter 40 args) w := enters_fn Try.func40 (by kernel_rfl) rfl
theorem en41 : ∀ args w, (Go.callFunc 41 args).run Try.prog w = .ok (.enter 41 args) w := enters_fn Try.func41 (by kernel_rfl) rfl
theorem en42 : ∀ args w, (Go.callFunc 42 args).run Try.prog w = .ok (.enter 42 args) w := enters_fn Try.func42 (by kernel_rfl) rfl
theorem en43 : ∀ args w, (Go.callFunc 43 args).run Try.prog w = .ok (.enter 43 args) w := enters_fn Try.func43 (by kernel_rfl) rfl
theorem en44 : ∀ args w, (Go.callFunc 44 args).run Try.prog w = .ok (.enter 44 args) w := enters_fn Try.func44 (by kernel_rfl) rfl
theorem en45 : ∀ args w, (Go.callFunc 45 args).run Try.prog w = .ok (.enter 45 args) w := enters_fn Try.func45 (by kernel_rfl) rfl
theorem en46 : ∀ args w, (Go.callFunc 46 args).run Try.prog w = .ok (.enter 46 args) w := enters_fn Try.func46 (by kernel_rfl) rfl
theorem en47 : ∀ args w, (Go.callFunc 47 args).run Try.prog w = .ok (.enter 47 args) w := enters_fn Try.func47 (by kernel_rfl) rfl
theorem en48 : ∀ args w, (Go.callFunc 48 args).run Try.prog w = .ok (.enter 48 args) w := enters_fn Try.func48 (by kernel_rfl) rfl
theorem en49 : ∀ args w, (Go.callFunc 49 args).run Try.prog w = .ok (.enter 49 args) w := enters_fn Try.func49 (by kernel_rfl) rfl
theorem en50 : ∀ args w, (Go.callFunc 50 args).run Try.prog w = .ok (.enter 50 args) w := enters_fn Try.func50 (by kernel_rfl) rfl
theorem en51 : ∀ args w, (Go.callFunc 51 args).run Try.prog w = .ok (.enter 51 args) w := enters_fn Try.func51 (by kernel_rfl) rfl
theorem en52 : ∀ args w, (Go.callFunc 52 args).run Try.prog w = .ok (.enter 52 args) w := enters_fn Try.func52 (by kernel_rfl) rfl
theorem en53 : ∀ args w, (Go.callFunc 53 args).run Try.prog w = .ok (.enter 53 args) w := enters_fn Try.func53 (by kernel_rfl) rfl
theorem en54 : ∀ args w, (Go.callFunc 54 args).run Try.prog w = .ok (.enter 54 args) w := enters_fn Try.func54 (by kernel_rfl) rfl
theorem en55 : ∀ args w, (Go.callFunc 55 args).run Try.prog w = .ok (.enter 55 args) w := enters_fn Try.func55 (by kernel_rfl) rfl
theorem en56 : ∀ args w, (Go.callFunc 56 args).run Try.prog w = .ok (.enter 56 args) w := enters_fn Try.func56 (by kernel_rfl) rfl
theorem en57 : ∀ args w, (Go.callFunc 57 args).run Try.prog w = .ok (.enter 57 args) w := enters_fn Try.func57 (by kernel_rfl) rfl
theorem en58 : ∀ args w, (Go.callFunc 58 args).run Try.prog w = .ok (.enter 58 args) w := enters_fn Try.func58 (by kernel_rfl) rfl
theorem en59 : ∀ args w, (Go.callFunc 59 args).run Try.prog w = .ok (.enter 59 args) w := enters_fn Try.func59 (by kernel_rfl) rfl
theorem en60 : ∀ args w, (Go.callFunc 60 args).run Try.prog w = .ok (.enter 60 args) w := enters_fn Try.func60 (by kernel_rfl) rfl
theorem en61 : ∀ args w, (Go.callFunc 61 args).run Try.prog w = .ok (.enter 61 args) w := enters_fn Try.func61 (by kernel_rfl) rfl
theorem en62 : ∀ args w, (Go.callFunc 62 args).run Try.prog w = .ok (.enter 62 args) w := enters_fn Try.func62 (by kernel_rfl) rfl
theorem en63 : ∀ args w, (Go.callFunc 63 args).run Try.prog w = .ok (.enter 63 args) w := enters_fn Try.func63 (by kernel_rfl) rfl
theorem en64 : ∀ args w, (Go.callFunc 64 args).run Try.prog w = .ok (.enter 64 args) w := enters_fn Try.func64 (by kernel_rfl) rfl
theorem en65 : ∀ args w, (Go.callFunc 65 args).run Try.prog w = .ok (.enter 65 args) w := enters_fn Try.func65 (by kernel_rfl) rfl
theorem en66 : ∀ args w, (Go.callFunc 66 args).run Try.prog w = .ok (.enter 66 args) w := enters_fn Try.func66 (by kernel_rfl) rfl
theorem en67 : ∀ args w, (Go.callFunc 67 args).run Try.prog w = .ok (.enter 67 args) w := enters_fn Try.func67 (by kernel_rfl) rfl
theorem en68 : ∀ args w, (Go.callFunc 68 args).run Try.prog w = .ok (.enter 68 args) w := enters_fn Try.func68 (by kernel_rfl) rfl
theorem en69 : ∀ args w, (Go.callFunc 69 args).run Try.prog w = .ok (.enter 69 args) w := enters_fn Try.func69 (by kernel_rfl) rfl
theorem en70 : ∀ args w, (Go.callFunc 70 args).run Try.prog w = .ok (.enter 70 args) w := enters_fn Try.func70 (by kernel_rfl) rfl
theorem en71 : ∀ args w, (Go.callFunc 71 args).run Try.prog w = .ok (.enter 71 args) w := enters_fn Try.func71 (by kernel_rfl) rfl
theorem en72 : ∀ args w, (Go.callFunc 72 args).run Try.prog w = .ok (.enter 72 args) w := enters_fn Try.func72 (by kernel_rfl) rfl
theorem en73 : ∀ args w, (Go.callFunc 73 args).run Try.prog w = .ok (.enter 73 args) w := enters_fn Try.func73 (by kernel_rfl) rfl
theorem en74 : ∀ args w, (Go.callFunc 74 args).run Try.prog w = .ok (.enter 74 args) w := enters_fn Try.func74 (by kernel_rfl) rfl
theorem en75 : ∀ args w, (Go.callFunc 75 args).run Try.prog w = .ok (.enter 75 args) w := enters_fn Try.func75 (by kernel_rfl) rfl
theorem en76 : ∀ args w, (Go.callFunc 76 args).run Try.prog w = .ok (.enter 76 args) w := enters_fn Try.func76 (by kernel_rfl) rfl
theorem en77 : ∀ args w, (Go.callFunc 77 args).run Try.prog w = .ok (.enter 77 args) w := enters_fn Try.func77 (by kernel_rfl) rfl
theorem en78 : ∀ args w, (Go.callFunc 78 args).run Try.prog w = .ok (.enter 78 args) w := enters_fn Try.func78 (by kernel_rfl) rfl
theorem en79 : ∀ args w, (Go.callFunc 79 args).run Try.prog w = .ok (.enter 79 args) w := enters_fn Try.func79 (by kernel_rfl) rfl
theorem en80 : ∀ args w, (Go.callFunc 80 args).run Try.prog w = .ok (.enter 80 args) w := enters_fn Try.func80 (by kernel_rfl) rfl
theorem en81 : ∀ args w, (Go.callFunc 81 args).run Try.prog w = .ok (.enter 81 args) w := enters_fn Try.func81 (by kernel_rfl) rfl
theorem en82 : ∀ args w, (Go.callFunc 82 args).run Try.prog w = .ok (.enter 82 args) w := enters_fn Try.func82 (by kernel_rfl) rfl
theorem en83 : ∀ args w, (Go.callFunc 83 args).run Try.prog w = .ok (.enter 83 args) w := enters_fn Try.func83 (by kernel_rfl) rfl
theorem en84 : ∀ args w, (Go.callFunc 84 args).run Try.prog w = .ok (.enter 84 args) w := enters_fn Try.func84 (by kernel_rfl) rfl
theorem en85 : ∀ args w, (Go.callFunc 85 args).run Try.prog w = .ok (.enter 85 args) w := enters_fn Try.func85 (by kernel_rfl) rfl
theorem en86 : ∀ args w, (Go.callFunc 86 args).run Try.prog w = .ok (.enter 86 args) w := enters_fn Try.func86 (by kernel_rfl) rfl
theorem en87 : ∀ args w, (Go.callFunc 87 args).run Try.prog w = .ok (.enter 87 args) w := enters_fn Try.func87 (by kernel_rfl) rfl
theorem en88 : ∀ args w, (Go.callFunc 88 args).run Try.prog w = .ok (.enter 88 args) w := enters_fn Try.func88 (by kernel_rfl) rfl
theorem en89 : ∀ args w, (Go.callFunc 89 args).run Try.prog w = .ok (.enter 89 args) w := enters_fn Try.func89 (by kernel_rfl) rfl
theorem en90 : ∀ args w, (Go.callFunc 90 args).run Try.prog w = .ok (.enter 90 args) w := enters_fn Try.func90 (by kernel_rfl) rfl
theorem en91 : ∀ args w, (Go.callFunc 91 args).run Try.prog w = .ok (.enter 91 args) w := enters_fn Try.func91 (by kernel_rfl) rfl
theorem en92 : ∀ args w, (Go.callFunc 92 args).run Try.prog w = .ok (.enter 92 args) w := enters_fn Try.func92 (by kernel_rfl) rfl
theorem en93 : ∀ args w, (Go.callFunc 93 args).run Try.prog w = .ok (.enter 93 args) w := enters_fn Try.func93 (by kernel_rfl) rfl
theorem en94 : ∀ args w, (Go.callFunc 94 args).run Try.prog w = .ok (.enter 94 args) w := enters_fn Try.func94 (by kernel_rfl) rfl
theorem en95 : ∀ args w, (Go.callFunc 95 args).run Try.prog w = .ok (.enter 95 args) w := enters_fn Try.func95 (by kernel_rfl) rfl
theorem en96 : ∀ args w, (Go.callFunc 96 args).run Try.prog w = .ok (.enter 96 args) w := enters_fn Try.func96 (by kernel_rfl) rfl
theorem en97 : ∀ args w, (Go.callFunc 97 args).run Try.prog w = .ok (.enter 97 args) w := enters_fn Try.func97 (by kernel_rfl) rfl
theorem en98 : ∀ args w, (Go.callFunc 98 args).run Try.prog w = .ok (.enter 98 args) w := enters_fn Try.func98 (by kernel_rfl) rfl
theorem en99 : ∀ args w, (Go.callFunc 99 args).run Try.prog w = .ok (.enter 99 args) w := enters_fn Try.func99 (by kernel_rfl) rfl
theorem en100 : ∀ args w, (Go.callFunc 100 args).run Try.prog w = .ok (.enter 100 args) w := enters_fn Try.func100 (by kernel_rfl) rfl
theorem en101 : ∀ args w, (Go.callFunc 101 args).run Try.prog w = .ok (.enter 101 args) w := enters_fn Try.func101 (by kernel_rfl) rfl
theorem en102 : ∀ args w, (Go.callFunc 102 args).run Try.prog w = .ok (.enter 102 args) w := enters_fn Try.func102 (by kernel_rfl) rfl
theorem en103 : ∀ args w, (Go.callFunc 103 args).run Try.prog w = .ok (.enter 103 args) w := enters_fn Try.func103 (by kernel_rfl) rfl
theorem en104 : ∀ args w, (Go.callFunc 104 args).run Try.prog w = .ok (.enter 104 args) w := enters_fn Try.func104 (by kernel_rfl) rfl
theorem en105 : ∀ args w, (Go.callFunc 105 args).run Try.prog w = .ok (.enter 105 args) w := enters_fn Try.func105 (by kernel_rfl) rfl
theorem en106 : ∀ args w, (Go.callFunc 106 args).run Try.prog w = .ok (.enter 106 args) w := enters_fn Try.func106 (by kernel_rfl) rfl
theorem en107 : ∀ args w, (Go.callFunc 107 args).run Try.prog w = .ok (.enter 107 args) w := enters_fn Try.func107 (by kernel_rfl) rfl
theorem en108 : ∀ args w, (Go.callFunc 108 args).run Try.prog w = .ok (.enter 108 args) w := enters_fn Try.func108 (by kernel_rfl) rfl
theorem en109 : ∀ args w, (Go.callFunc 109 args).run Try.prog w = .ok (.enter 109 args) w := enters_fn Try.func109 (by kernel_rfl) rfl
theorem en110 : ∀ args w, (Go.callFunc 110 args).run Try.prog w = .ok (.enter 110 args) w := enters_fn Try.func110 (by kernel_rfl) rfl
theorem en111 : ∀ args w, (Go.callFunc 111 args).run Try.prog w = .ok (.enter 111 args) w := enters_fn Try.func111 (by kernel_rfl) rfl
theorem en112 : ∀ args w, (Go.callFunc 112 args).run Try.prog w = .ok (.enter 112 args) w := enters_fn Try.func112 (by kernel_rfl) rfl
theorem en113 : ∀ args w, (Go.callFunc 113 args).run Try.prog w = .ok (.enter 113 args) w := enters_fn Try.func113 (by kernel_rfl) rfl
theorem mixedOk : Try.prog.follows .mixedOrders = true := by kernel_rfl
end Go.Proofs.Ytaajcbhingpfeaa
