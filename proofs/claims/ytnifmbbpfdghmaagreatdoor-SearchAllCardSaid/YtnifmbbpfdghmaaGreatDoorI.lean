/-
  What the program table says of each type.
-/
import Derived.Test.YtnifmbbpfdghmaaGreatDoorProg
import Derived.Test.YtnifmbbpfdghmaaGreatDoorY1
import Derived.KernelRfl
set_option linter.all false
namespace Go.Proofs.YtnifmbbpfdghmaaGreatDoor
open Go.En
instance iu0:UT Tryz.prog 0 Tryz.t0.desc:=⟨Tryz.underlying0⟩
instance ii0:TI Tryz.prog 0 (Value.tuple #[]) 1 0:=⟨by kernel_rfl⟩
instance iu1:UT Tryz.prog 1 Tryz.t1.desc:=⟨Tryz.underlying1⟩
instance ii1:TI Tryz.prog 1 Value.nilFunc 1 8:=⟨by kernel_rfl⟩
instance iu2:UT Tryz.prog 2 (TypeDesc.int IntKind.i64):=⟨Tryz.underlying2⟩
instance ii2:TI Tryz.prog 2 (Value.int IntKind.i64 0) 1 8:=⟨by kernel_rfl⟩
instance iu3:UT Tryz.prog 3 (TypeDesc.int IntKind.i64):=⟨Tryz.underlying3⟩
instance ii3:TI Tryz.prog 3 (Value.int IntKind.i64 0) 1 8:=⟨by kernel_rfl⟩
instance iu4:UT Tryz.prog 4 (TypeDesc.bool):=⟨Tryz.underlying4⟩
instance ii4:TI Tryz.prog 4 (Value.bool false) 1 1:=⟨by kernel_rfl⟩
instance iu5:UT Tryz.prog 5 (TypeDesc.int IntKind.u8):=⟨Tryz.underlying5⟩
instance ii5:TI Tryz.prog 5 (Value.int IntKind.u8 0) 1 1:=⟨by kernel_rfl⟩
instance iu6:UT Tryz.prog 6 (TypeDesc.int IntKind.u8):=⟨Tryz.underlying6⟩
instance ii6:TI Tryz.prog 6 (Value.int IntKind.u8 0) 1 1:=⟨by kernel_rfl⟩
instance iu7:UT Tryz.prog 7 Tryz.t7.desc:=⟨Tryz.underlying7⟩
instance ii7:TI Tryz.prog 7 (Value.agg #[Value.int IntKind.i64 0,Value.int IntKind.i64 0,Value.bool false,Value.int IntKind.u8 0]) 4 24:=⟨by kernel_rfl⟩
instance ib7:BT Tryz.prog 7 [(0,1),(1,1),(2,1),(3,1)]:=⟨⟨_,Tryz.underlying7,by kernel_rfl⟩⟩
instance is7_0:SF Tryz.prog 7 0 0 2:=⟨⟨_,_,Tryz.underlying7,rfl,rfl,rfl⟩⟩
instance is7_1:SF Tryz.prog 7 1 1 3:=⟨⟨_,_,Tryz.underlying7,rfl,rfl,rfl⟩⟩
instance is7_2:SF Tryz.prog 7 2 2 4:=⟨⟨_,_,Tryz.underlying7,rfl,rfl,rfl⟩⟩
instance is7_3:SF Tryz.prog 7 3 3 6:=⟨⟨_,_,Tryz.underlying7,rfl,rfl,rfl⟩⟩
instance iu8:UT Tryz.prog 8 Tryz.t7.desc:=⟨Tryz.underlying8⟩
instance ii8:TI Tryz.prog 8 (Value.agg #[Value.int IntKind.i64 0,Value.int IntKind.i64 0,Value.bool false,Value.int IntKind.u8 0]) 4 24:=⟨by kernel_rfl⟩
instance ib8:BT Tryz.prog 8 [(0,1),(1,1),(2,1),(3,1)]:=⟨⟨_,Tryz.underlying8,by kernel_rfl⟩⟩
instance is8_0:SF Tryz.prog 8 0 0 2:=⟨⟨_,_,Tryz.underlying8,rfl,rfl,rfl⟩⟩
instance is8_1:SF Tryz.prog 8 1 1 3:=⟨⟨_,_,Tryz.underlying8,rfl,rfl,rfl⟩⟩
instance is8_2:SF Tryz.prog 8 2 2 4:=⟨⟨_,_,Tryz.underlying8,rfl,rfl,rfl⟩⟩
instance is8_3:SF Tryz.prog 8 3 3 6:=⟨⟨_,_,Tryz.underlying8,rfl,rfl,rfl⟩⟩
instance iu9:UT Tryz.prog 9 (TypeDesc.string):=⟨Tryz.underlying9⟩
instance ii9:TI Tryz.prog 9 (Value.string { data:=#[] }) 1 16:=⟨by kernel_rfl⟩
instance iu10:UT Tryz.prog 10 (TypeDesc.string):=⟨Tryz.underlying10⟩
instance ii10:TI Tryz.prog 10 (Value.string { data:=#[] }) 1 16:=⟨by kernel_rfl⟩
instance iu11:UT Tryz.prog 11 (TypeDesc.string):=⟨Tryz.underlying11⟩
instance ii11:TI Tryz.prog 11 (Value.string { data:=#[] }) 1 16:=⟨by kernel_rfl⟩
instance iu12:UT Tryz.prog 12 (TypeDesc.int IntKind.u64):=⟨Tryz.underlying12⟩
instance ii12:TI Tryz.prog 12 (Value.int IntKind.u64 0) 1 8:=⟨by kernel_rfl⟩
instance iu13:UT Tryz.prog 13 Tryz.t13.desc:=⟨Tryz.underlying13⟩
instance ii13:TI Tryz.prog 13 (Value.agg #[Value.string { data:=#[] },Value.int IntKind.u64 0]) 2 24:=⟨by kernel_rfl⟩
instance ib13:BT Tryz.prog 13 [(0,1),(1,1)]:=⟨⟨_,Tryz.underlying13,by kernel_rfl⟩⟩
instance is13_0:SF Tryz.prog 13 0 0 9:=⟨⟨_,_,Tryz.underlying13,rfl,rfl,rfl⟩⟩
instance is13_1:SF Tryz.prog 13 1 1 12:=⟨⟨_,_,Tryz.underlying13,rfl,rfl,rfl⟩⟩
instance iu14:UT Tryz.prog 14 Tryz.t13.desc:=⟨Tryz.underlying14⟩
instance ii14:TI Tryz.prog 14 (Value.agg #[Value.string { data:=#[] },Value.int IntKind.u64 0]) 2 24:=⟨by kernel_rfl⟩
instance ib14:BT Tryz.prog 14 [(0,1),(1,1)]:=⟨⟨_,Tryz.underlying14,by kernel_rfl⟩⟩
instance is14_0:SF Tryz.prog 14 0 0 9:=⟨⟨_,_,Tryz.underlying14,rfl,rfl,rfl⟩⟩
instance is14_1:SF Tryz.prog 14 1 1 12:=⟨⟨_,_,Tryz.underlying14,rfl,rfl,rfl⟩⟩
instance iu15:UT Tryz.prog 15 (TypeDesc.pointer 205):=⟨Tryz.underlying15⟩
instance ii15:TI Tryz.prog 15 (Value.pointer none) 1 8:=⟨by kernel_rfl⟩
instance iu16:UT Tryz.prog 16 (TypeDesc.pointer 208):=⟨Tryz.underlying16⟩
instance ii16:TI Tryz.prog 16 (Value.pointer none) 1 8:=⟨by kernel_rfl⟩
instance iu17:UT Tryz.prog 17 (TypeDesc.pointer 217):=⟨Tryz.underlying17⟩
instance ii17:TI Tryz.prog 17 (Value.pointer none) 1 8:=⟨by kernel_rfl⟩
instance iu18:UT Tryz.prog 18 Tryz.t18.desc:=⟨Tryz.underlying18⟩
instance ii18:TI Tryz.prog 18 (Value.agg #[Value.pointer none]) 1 8:=⟨by kernel_rfl⟩
instance ib18:BT Tryz.prog 18 [(0,1)]:=⟨⟨_,Tryz.underlying18,by kernel_rfl⟩⟩
instance is18_0:SF Tryz.prog 18 0 0 17:=⟨⟨_,_,Tryz.underlying18,rfl,rfl,rfl⟩⟩
instance iu19:UT Tryz.prog 19 Tryz.t18.desc:=⟨Tryz.underlying19⟩
instance ii19:TI Tryz.prog 19 (Value.agg #[Value.pointer none]) 1 8:=⟨by kernel_rfl⟩
instance ib19:BT Tryz.prog 19 [(0,1)]:=⟨⟨_,Tryz.underlying19,by kernel_rfl⟩⟩
instance is19_0:SF Tryz.prog 19 0 0 17:=⟨⟨_,_,Tryz.underlying19,rfl,rfl,rfl⟩⟩
instance iu20:UT Tryz.prog 20 Tryz.t20.desc:=⟨Tryz.underlying20⟩
instance ii20:TI Tryz.prog 20 Value.nilIface 1 16:=⟨by kernel_rfl⟩
instance iu21:UT Tryz.prog 21 (TypeDesc.int IntKind.i32):=⟨Tryz.underlying21⟩
instance ii21:TI Tryz.prog 21 (Value.int IntKind.i32 0) 1 4:=⟨by kernel_rfl⟩
instance iu22:UT Tryz.prog 22 (TypeDesc.slice 3):=⟨Tryz.underlying22⟩
instance ii22:TI Tryz.prog 22 (Value.slice none 0 0) 1 24:=⟨by kernel_rfl⟩
instance iu23:UT Tryz.prog 23 Tryz.t23.desc:=⟨Tryz.underlying23⟩
instance ii23:TI Tryz.prog 23 (Value.agg #[Value.int IntKind.i64 0,Value.string { data:=#[] },Value.int IntKind.i64 0,Value.int IntKind.i64 0,Value.slice none 0 0]) 5 64:=⟨by kernel_rfl⟩
instance ib23:BT Tryz.prog 23 [(0,1),(1,1),(2,1),(3,1),(4,1)]:=⟨⟨_,Tryz.underlying23,by kernel_rfl⟩⟩
instance is23_0:SF Tryz.prog 23 0 0 3:=⟨⟨_,_,Tryz.underlying23,rfl,rfl,rfl⟩⟩
instance is23_1:SF Tryz.prog 23 1 1 9:=⟨⟨_,_,Tryz.underlying23,rfl,rfl,rfl⟩⟩
instance is23_2:SF Tryz.prog 23 2 2 3:=⟨⟨_,_,Tryz.underlying23,rfl,rfl,rfl⟩⟩
instance is23_3:SF Tryz.prog 23 3 3 3:=⟨⟨_,_,Tryz.underlying23,rfl,rfl,rfl⟩⟩
instance is23_4:SF Tryz.prog 23 4 4 22:=⟨⟨_,_,Tryz.underlying23,rfl,rfl,rfl⟩⟩
instance iu24:UT Tryz.prog 24 Tryz.t23.desc:=⟨Tryz.underlying24⟩
instance ii24:TI Tryz.prog 24 (Value.agg #[Value.int IntKind.i64 0,Value.string { data:=#[] },Value.int IntKind.i64 0,Value.int IntKind.i64 0,Value.slice none 0 0]) 5 64:=⟨by kernel_rfl⟩
instance ib24:BT Tryz.prog 24 [(0,1),(1,1),(2,1),(3,1),(4,1)]:=⟨⟨_,Tryz.underlying24,by kernel_rfl⟩⟩
instance is24_0:SF Tryz.prog 24 0 0 3:=⟨⟨_,_,Tryz.underlying24,rfl,rfl,rfl⟩⟩
instance is24_1:SF Tryz.prog 24 1 1 9:=⟨⟨_,_,Tryz.underlying24,rfl,rfl,rfl⟩⟩
instance is24_2:SF Tryz.prog 24 2 2 3:=⟨⟨_,_,Tryz.underlying24,rfl,rfl,rfl⟩⟩
instance is24_3:SF Tryz.prog 24 3 3 3:=⟨⟨_,_,Tryz.underlying24,rfl,rfl,rfl⟩⟩
instance is24_4:SF Tryz.prog 24 4 4 22:=⟨⟨_,_,Tryz.underlying24,rfl,rfl,rfl⟩⟩
instance iu25:UT Tryz.prog 25 (TypeDesc.slice 70):=⟨Tryz.underlying25⟩
instance ii25:TI Tryz.prog 25 (Value.slice none 0 0) 1 24:=⟨by kernel_rfl⟩
instance iu26:UT Tryz.prog 26 (TypeDesc.slice 74):=⟨Tryz.underlying26⟩
instance ii26:TI Tryz.prog 26 (Value.slice none 0 0) 1 24:=⟨by kernel_rfl⟩
instance iu27:UT Tryz.prog 27 Tryz.t27.desc:=⟨Tryz.underlying27⟩
instance ii27:TI Tryz.prog 27 (Value.agg #[Value.int IntKind.i64 0,Value.string { data:=#[] },Value.int IntKind.i64 0,Value.int IntKind.i64 0,Value.slice none 0 0,Value.slice none 0 0,Value.slice none 0 0]) 7 112:=⟨by kernel_rfl⟩
instance ib27:BT Tryz.prog 27 [(0,5),(5,1),(6,1)]:=⟨⟨_,Tryz.underlying27,by kernel_rfl⟩⟩
instance is27_0:SF Tryz.prog 27 0 0 24:=⟨⟨_,_,Tryz.underlying27,rfl,rfl,rfl⟩⟩
instance is27_1:SF Tryz.prog 27 1 5 25:=⟨⟨_,_,Tryz.underlying27,rfl,rfl,rfl⟩⟩
instance is27_2:SF Tryz.prog 27 2 6 26:=⟨⟨_,_,Tryz.underlying27,rfl,rfl,rfl⟩⟩
instance iu28:UT Tryz.prog 28 Tryz.t27.desc:=⟨Tryz.underlying28⟩
instance ii28:TI Tryz.prog 28 (Value.agg #[Value.int IntKind.i64 0,Value.string { data:=#[] },Value.int IntKind.i64 0,Value.int IntKind.i64 0,Value.slice none 0 0,Value.slice none 0 0,Value.slice none 0 0]) 7 112:=⟨by kernel_rfl⟩
instance ib28:BT Tryz.prog 28 [(0,5),(5,1),(6,1)]:=⟨⟨_,Tryz.underlying28,by kernel_rfl⟩⟩
instance is28_0:SF Tryz.prog 28 0 0 24:=⟨⟨_,_,Tryz.underlying28,rfl,rfl,rfl⟩⟩
instance is28_1:SF Tryz.prog 28 1 5 25:=⟨⟨_,_,Tryz.underlying28,rfl,rfl,rfl⟩⟩
instance is28_2:SF Tryz.prog 28 2 6 26:=⟨⟨_,_,Tryz.underlying28,rfl,rfl,rfl⟩⟩
instance iu29:UT Tryz.prog 29 Tryz.t29.desc:=⟨Tryz.underlying29⟩
instance ii29:TI Tryz.prog 29 Value.nilFunc 1 8:=⟨by kernel_rfl⟩
instance iu30:UT Tryz.prog 30 Tryz.t30.desc:=⟨Tryz.underlying30⟩
instance ii30:TI Tryz.prog 30 Value.nilFunc 1 8:=⟨by kernel_rfl⟩
instance iu31:UT Tryz.prog 31 Tryz.t31.desc:=⟨Tryz.underlying31⟩
instance ii31:TI Tryz.prog 31 Value.nilFunc 1 8:=⟨by kernel_rfl⟩
instance iu32:UT Tryz.prog 32 Tryz.t32.desc:=⟨Tryz.underlying32⟩
instance ii32:TI Tryz.prog 32 Value.nilFunc 1 8:=⟨by kernel_rfl⟩
instance iu33:UT Tryz.prog 33 Tryz.t33.desc:=⟨Tryz.underlying33⟩
instance ii33:TI Tryz.prog 33 Value.nilFunc 1 8:=⟨by kernel_rfl⟩
instance iu34:UT Tryz.prog 34 (TypeDesc.slice 36):=⟨Tryz.underlying34⟩
instance ii34:TI Tryz.prog 34 (Value.slice none 0 0) 1 24:=⟨by kernel_rfl⟩
instance iu35:UT Tryz.prog 35 Tryz.t35.desc:=⟨Tryz.underlying35⟩
instance ii35:TI Tryz.prog 35 (Value.agg #[Value.int IntKind.i64 0,Value.int IntKind.i64 0,Value.string { data:=#[] },Value.slice none 0 0]) 4 56:=⟨by kernel_rfl⟩
instance ib35:BT Tryz.prog 35 [(0,1),(1,1),(2,1),(3,1)]:=⟨⟨_,Tryz.underlying35,by kernel_rfl⟩⟩
instance is35_0:SF Tryz.prog 35 0 0 3:=⟨⟨_,_,Tryz.underlying35,rfl,rfl,rfl⟩⟩
instance is35_1:SF Tryz.prog 35 1 1 3:=⟨⟨_,_,Tryz.underlying35,rfl,rfl,rfl⟩⟩
instance is35_2:SF Tryz.prog 35 2 2 9:=⟨⟨_,_,Tryz.underlying35,rfl,rfl,rfl⟩⟩
instance is35_3:SF Tryz.prog 35 3 3 34:=⟨⟨_,_,Tryz.underlying35,rfl,rfl,rfl⟩⟩
instance iu36:UT Tryz.prog 36 Tryz.t35.desc:=⟨Tryz.underlying36⟩
instance ii36:TI Tryz.prog 36 (Value.agg #[Value.int IntKind.i64 0,Value.int IntKind.i64 0,Value.string { data:=#[] },Value.slice none 0 0]) 4 56:=⟨by kernel_rfl⟩
instance ib36:BT Tryz.prog 36 [(0,1),(1,1),(2,1),(3,1)]:=⟨⟨_,Tryz.underlying36,by kernel_rfl⟩⟩
instance is36_0:SF Tryz.prog 36 0 0 3:=⟨⟨_,_,Tryz.underlying36,rfl,rfl,rfl⟩⟩
instance is36_1:SF Tryz.prog 36 1 1 3:=⟨⟨_,_,Tryz.underlying36,rfl,rfl,rfl⟩⟩
instance is36_2:SF Tryz.prog 36 2 2 9:=⟨⟨_,_,Tryz.underlying36,rfl,rfl,rfl⟩⟩
instance is36_3:SF Tryz.prog 36 3 3 34:=⟨⟨_,_,Tryz.underlying36,rfl,rfl,rfl⟩⟩
instance iu37:UT Tryz.prog 37 Tryz.t37.desc:=⟨Tryz.underlying37⟩
instance ii37:TI Tryz.prog 37 Value.nilFunc 1 8:=⟨by kernel_rfl⟩
instance iu38:UT Tryz.prog 38 Tryz.t38.desc:=⟨Tryz.underlying38⟩
instance ii38:TI Tryz.prog 38 Value.nilFunc 1 8:=⟨by kernel_rfl⟩
instance iu39:UT Tryz.prog 39 Tryz.t39.desc:=⟨Tryz.underlying39⟩
instance ii39:TI Tryz.prog 39 Value.nilFunc 1 8:=⟨by kernel_rfl⟩
instance iu40:UT Tryz.prog 40 Tryz.t40.desc:=⟨Tryz.underlying40⟩
instance ii40:TI Tryz.prog 40 Value.nilFunc 1 8:=⟨by kernel_rfl⟩
instance iu41:UT Tryz.prog 41 Tryz.t41.desc:=⟨Tryz.underlying41⟩
instance ii41:TI Tryz.prog 41 Value.nilFunc 1 8:=⟨by kernel_rfl⟩
instance iu42:UT Tryz.prog 42 Tryz.t42.desc:=⟨Tryz.underlying42⟩
instance ii42:TI Tryz.prog 42 Value.nilFunc 1 8:=⟨by kernel_rfl⟩
instance iu43:UT Tryz.prog 43 Tryz.t43.desc:=⟨Tryz.underlying43⟩
instance ii43:TI Tryz.prog 43 Value.nilFunc 1 8:=⟨by kernel_rfl⟩
instance iu44:UT Tryz.prog 44 Tryz.t44.desc:=⟨Tryz.underlying44⟩
instance ii44:TI Tryz.prog 44 Value.nilFunc 1 8:=⟨by kernel_rfl⟩
instance iu45:UT Tryz.prog 45 Tryz.t45.desc:=⟨Tryz.underlying45⟩
instance ii45:TI Tryz.prog 45 Value.nilFunc 1 8:=⟨by kernel_rfl⟩
instance iu46:UT Tryz.prog 46 Tryz.t46.desc:=⟨Tryz.underlying46⟩
instance ii46:TI Tryz.prog 46 Value.nilFunc 1 8:=⟨by kernel_rfl⟩
instance iu47:UT Tryz.prog 47 (TypeDesc.slice 102):=⟨Tryz.underlying47⟩
instance ii47:TI Tryz.prog 47 (Value.slice none 0 0) 1 24:=⟨by kernel_rfl⟩
instance iu48:UT Tryz.prog 48 Tryz.t48.desc:=⟨Tryz.underlying48⟩
instance ii48:TI Tryz.prog 48 (Value.agg #[Value.slice none 0 0]) 1 24:=⟨by kernel_rfl⟩
instance ib48:BT Tryz.prog 48 [(0,1)]:=⟨⟨_,Tryz.underlying48,by kernel_rfl⟩⟩
instance is48_0:SF Tryz.prog 48 0 0 47:=⟨⟨_,_,Tryz.underlying48,rfl,rfl,rfl⟩⟩
instance iu49:UT Tryz.prog 49 Tryz.t48.desc:=⟨Tryz.underlying49⟩
instance ii49:TI Tryz.prog 49 (Value.agg #[Value.slice none 0 0]) 1 24:=⟨by kernel_rfl⟩
instance ib49:BT Tryz.prog 49 [(0,1)]:=⟨⟨_,Tryz.underlying49,by kernel_rfl⟩⟩
instance is49_0:SF Tryz.prog 49 0 0 47:=⟨⟨_,_,Tryz.underlying49,rfl,rfl,rfl⟩⟩
instance iu50:UT Tryz.prog 50 Tryz.t50.desc:=⟨Tryz.underlying50⟩
instance ii50:TI Tryz.prog 50 Value.nilFunc 1 8:=⟨by kernel_rfl⟩
instance iu51:UT Tryz.prog 51 Tryz.t51.desc:=⟨Tryz.underlying51⟩
instance ii51:TI Tryz.prog 51 Value.nilFunc 1 8:=⟨by kernel_rfl⟩
instance iu52:UT Tryz.prog 52 Tryz.t52.desc:=⟨Tryz.underlying52⟩
instance ii52:TI Tryz.prog 52 Value.nilFunc 1 8:=⟨by kernel_rfl⟩
instance iu53:UT Tryz.prog 53 Tryz.t53.desc:=⟨Tryz.underlying53⟩
instance ii53:TI Tryz.prog 53 Value.nilFunc 1 8:=⟨by kernel_rfl⟩
instance iu54:UT Tryz.prog 54 Tryz.t54.desc:=⟨Tryz.underlying54⟩
instance ii54:TI Tryz.prog 54 Value.nilFunc 1 8:=⟨by kernel_rfl⟩
instance iu55:UT Tryz.prog 55 Tryz.t55.desc:=⟨Tryz.underlying55⟩
instance ii55:TI Tryz.prog 55 Value.nilFunc 1 8:=⟨by kernel_rfl⟩
instance iu56:UT Tryz.prog 56 Tryz.t56.desc:=⟨Tryz.underlying56⟩
instance ii56:TI Tryz.prog 56 Value.nilFunc 1 8:=⟨by kernel_rfl⟩
instance iu57:UT Tryz.prog 57 Tryz.t57.desc:=⟨Tryz.underlying57⟩
instance ii57:TI Tryz.prog 57 Value.nilFunc 1 8:=⟨by kernel_rfl⟩
instance iu58:UT Tryz.prog 58 Tryz.t58.desc:=⟨Tryz.underlying58⟩
instance ii58:TI Tryz.prog 58 Value.nilFunc 1 8:=⟨by kernel_rfl⟩
instance iu59:UT Tryz.prog 59 (TypeDesc.slice 28):=⟨Tryz.underlying59⟩
instance ii59:TI Tryz.prog 59 (Value.slice none 0 0) 1 24:=⟨by kernel_rfl⟩
instance iu60:UT Tryz.prog 60 Tryz.t60.desc:=⟨Tryz.underlying60⟩
instance ii60:TI Tryz.prog 60 Value.nilFunc 1 8:=⟨by kernel_rfl⟩
instance iu61:UT Tryz.prog 61 (TypeDesc.slice 49):=⟨Tryz.underlying61⟩
instance ii61:TI Tryz.prog 61 (Value.slice none 0 0) 1 24:=⟨by kernel_rfl⟩
instance iu62:UT Tryz.prog 62 Tryz.t62.desc:=⟨Tryz.underlying62⟩
instance ii62:TI Tryz.prog 62 Value.nilFunc 1 8:=⟨by kernel_rfl⟩
instance iu63:UT Tryz.prog 63 (TypeDesc.slice 106):=⟨Tryz.underlying63⟩
instance ii63:TI Tryz.prog 63 (Value.slice none 0 0) 1 24:=⟨by kernel_rfl⟩
instance iu64:UT Tryz.prog 64 Tryz.t64.desc:=⟨Tryz.underlying64⟩
instance ii64:TI Tryz.prog 64 Value.nilFunc 1 8:=⟨by kernel_rfl⟩
instance iu65:UT Tryz.prog 65 Tryz.t65.desc:=⟨Tryz.underlying65⟩
instance ii65:TI Tryz.prog 65 Value.nilFunc 1 8:=⟨by kernel_rfl⟩
instance iu66:UT Tryz.prog 66 Tryz.t66.desc:=⟨Tryz.underlying66⟩
instance ii66:TI Tryz.prog 66 Value.nilFunc 1 8:=⟨by kernel_rfl⟩
instance iu67:UT Tryz.prog 67 (TypeDesc.int IntKind.i64):=⟨Tryz.underlying67⟩
instance ii67:TI Tryz.prog 67 (Value.int IntKind.i64 0) 1 8:=⟨by kernel_rfl⟩
instance iu68:UT Tryz.prog 68 Tryz.t68.desc:=⟨Tryz.underlying68⟩
instance ii68:TI Tryz.prog 68 Value.nilFunc 1 8:=⟨by kernel_rfl⟩
instance iu69:UT Tryz.prog 69 Tryz.t69.desc:=⟨Tryz.underlying69⟩
instance ii69:TI Tryz.prog 69 (Value.agg #[Value.string { data:=#[] },Value.int IntKind.i64 0,Value.int IntKind.i64 0,Value.int IntKind.i64 0]) 4 40:=⟨by kernel_rfl⟩
instance ib69:BT Tryz.prog 69 [(0,1),(1,1),(2,1),(3,1)]:=⟨⟨_,Tryz.underlying69,by kernel_rfl⟩⟩
instance is69_0:SF Tryz.prog 69 0 0 9:=⟨⟨_,_,Tryz.underlying69,rfl,rfl,rfl⟩⟩
instance is69_1:SF Tryz.prog 69 1 1 3:=⟨⟨_,_,Tryz.underlying69,rfl,rfl,rfl⟩⟩
instance is69_2:SF Tryz.prog 69 2 2 3:=⟨⟨_,_,Tryz.underlying69,rfl,rfl,rfl⟩⟩
instance is69_3:SF Tryz.prog 69 3 3 3:=⟨⟨_,_,Tryz.underlying69,rfl,rfl,rfl⟩⟩
instance iu70:UT Tryz.prog 70 Tryz.t69.desc:=⟨Tryz.underlying70⟩
instance ii70:TI Tryz.prog 70 (Value.agg #[Value.string { data:=#[] },Value.int IntKind.i64 0,Value.int IntKind.i64 0,Value.int IntKind.i64 0]) 4 40:=⟨by kernel_rfl⟩
instance ib70:BT Tryz.prog 70 [(0,1),(1,1),(2,1),(3,1)]:=⟨⟨_,Tryz.underlying70,by kernel_rfl⟩⟩
instance is70_0:SF Tryz.prog 70 0 0 9:=⟨⟨_,_,Tryz.underlying70,rfl,rfl,rfl⟩⟩
instance is70_1:SF Tryz.prog 70 1 1 3:=⟨⟨_,_,Tryz.underlying70,rfl,rfl,rfl⟩⟩
instance is70_2:SF Tryz.prog 70 2 2 3:=⟨⟨_,_,Tryz.underlying70,rfl,rfl,rfl⟩⟩
instance is70_3:SF Tryz.prog 70 3 3 3:=⟨⟨_,_,Tryz.underlying70,rfl,rfl,rfl⟩⟩
instance iu71:UT Tryz.prog 71 Tryz.t71.desc:=⟨Tryz.underlying71⟩
instance ii71:TI Tryz.prog 71 (Value.agg #[Value.int IntKind.i64 0,Value.int IntKind.i64 0]) 2 16:=⟨by kernel_rfl⟩
instance ib71:BT Tryz.prog 71 [(0,1),(1,1)]:=⟨⟨_,Tryz.underlying71,by kernel_rfl⟩⟩
instance is71_0:SF Tryz.prog 71 0 0 3:=⟨⟨_,_,Tryz.underlying71,rfl,rfl,rfl⟩⟩
instance is71_1:SF Tryz.prog 71 1 1 3:=⟨⟨_,_,Tryz.underlying71,rfl,rfl,rfl⟩⟩
instance iu72:UT Tryz.prog 72 Tryz.t71.desc:=⟨Tryz.underlying72⟩
instance ii72:TI Tryz.prog 72 (Value.agg #[Value.int IntKind.i64 0,Value.int IntKind.i64 0]) 2 16:=⟨by kernel_rfl⟩
instance ib72:BT Tryz.prog 72 [(0,1),(1,1)]:=⟨⟨_,Tryz.underlying72,by kernel_rfl⟩⟩
instance is72_0:SF Tryz.prog 72 0 0 3:=⟨⟨_,_,Tryz.underlying72,rfl,rfl,rfl⟩⟩
instance is72_1:SF Tryz.prog 72 1 1 3:=⟨⟨_,_,Tryz.underlying72,rfl,rfl,rfl⟩⟩
instance iu73:UT Tryz.prog 73 Tryz.t73.desc:=⟨Tryz.underlying73⟩
instance ii73:TI Tryz.prog 73 (Value.agg #[Value.int IntKind.i64 0,Value.int IntKind.i64 0,Value.int IntKind.i64 0,Value.int IntKind.i64 0,Value.int IntKind.i64 0,Value.int IntKind.i64 0,Value.string { data:=#[] }]) 7 64:=⟨by kernel_rfl⟩
instance ib73:BT Tryz.prog 73 [(0,1),(1,1),(2,1),(3,2),(5,1),(6,1)]:=⟨⟨_,Tryz.underlying73,by kernel_rfl⟩⟩
instance is73_0:SF Tryz.prog 73 0 0 3:=⟨⟨_,_,Tryz.underlying73,rfl,rfl,rfl⟩⟩
instance is73_1:SF Tryz.prog 73 1 1 3:=⟨⟨_,_,Tryz.underlying73,rfl,rfl,rfl⟩⟩
instance is73_2:SF Tryz.prog 73 2 2 3:=⟨⟨_,_,Tryz.underlying73,rfl,rfl,rfl⟩⟩
instance is73_3:SF Tryz.prog 73 3 3 72:=⟨⟨_,_,Tryz.underlying73,rfl,rfl,rfl⟩⟩
instance is73_4:SF Tryz.prog 73 4 5 3:=⟨⟨_,_,Tryz.underlying73,rfl,rfl,rfl⟩⟩
instance is73_5:SF Tryz.prog 73 5 6 9:=⟨⟨_,_,Tryz.underlying73,rfl,rfl,rfl⟩⟩
instance iu74:UT Tryz.prog 74 Tryz.t73.desc:=⟨Tryz.underlying74⟩
instance ii74:TI Tryz.prog 74 (Value.agg #[Value.int IntKind.i64 0,Value.int IntKind.i64 0,Value.int IntKind.i64 0,Value.int IntKind.i64 0,Value.int IntKind.i64 0,Value.int IntKind.i64 0,Value.string { data:=#[] }]) 7 64:=⟨by kernel_rfl⟩
instance ib74:BT Tryz.prog 74 [(0,1),(1,1),(2,1),(3,2),(5,1),(6,1)]:=⟨⟨_,Tryz.underlying74,by kernel_rfl⟩⟩
instance is74_0:SF Tryz.prog 74 0 0 3:=⟨⟨_,_,Tryz.underlying74,rfl,rfl,rfl⟩⟩
instance is74_1:SF Tryz.prog 74 1 1 3:=⟨⟨_,_,Tryz.underlying74,rfl,rfl,rfl⟩⟩
instance is74_2:SF Tryz.prog 74 2 2 3:=⟨⟨_,_,Tryz.underlying74,rfl,rfl,rfl⟩⟩
instance is74_3:SF Tryz.prog 74 3 3 72:=⟨⟨_,_,Tryz.underlying74,rfl,rfl,rfl⟩⟩
instance is74_4:SF Tryz.prog 74 4 5 3:=⟨⟨_,_,Tryz.underlying74,rfl,rfl,rfl⟩⟩
instance is74_5:SF Tryz.prog 74 5 6 9:=⟨⟨_,_,Tryz.underlying74,rfl,rfl,rfl⟩⟩
instance iu75:UT Tryz.prog 75 Tryz.t75.desc:=⟨Tryz.underlying75⟩
instance ii75:TI Tryz.prog 75 Value.nilFunc 1 8:=⟨by kernel_rfl⟩
instance iu76:UT Tryz.prog 76 Tryz.t76.desc:=⟨Tryz.underlying76⟩
instance ii76:TI Tryz.prog 76 Value.nilFunc 1 8:=⟨by kernel_rfl⟩
instance iu77:UT Tryz.prog 77 Tryz.t77.desc:=⟨Tryz.underlying77⟩
instance ii77:TI Tryz.prog 77 Value.nilFunc 1 8:=⟨by kernel_rfl⟩
instance iu78:UT Tryz.prog 78 Tryz.t78.desc:=⟨Tryz.underlying78⟩
instance ii78:TI Tryz.prog 78 Value.nilFunc 1 8:=⟨by kernel_rfl⟩
instance iu79:UT Tryz.prog 79 Tryz.t79.desc:=⟨Tryz.underlying79⟩
instance ii79:TI Tryz.prog 79 (Value.tuple #[Value.agg #[Value.int IntKind.i64 0,Value.int IntKind.i64 0,Value.int IntKind.i64 0,Value.int IntKind.i64 0,Value.int IntKind.i64 0,Value.int IntKind.i64 0,Value.string { data:=#[] }],Value.bool false]) 1 0:=⟨by kernel_rfl⟩
instance iu80:UT Tryz.prog 80 Tryz.t80.desc:=⟨Tryz.underlying80⟩
instance ii80:TI Tryz.prog 80 Value.nilFunc 1 8:=⟨by kernel_rfl⟩
instance iu81:UT Tryz.prog 81 Tryz.t81.desc:=⟨Tryz.underlying81⟩
instance ii81:TI Tryz.prog 81 (Value.tuple #[Value.agg #[Value.int IntKind.i64 0,Value.int IntKind.i64 0],Value.bool false]) 1 0:=⟨by kernel_rfl⟩
instance iu82:UT Tryz.prog 82 Tryz.t82.desc:=⟨Tryz.underlying82⟩
instance ii82:TI Tryz.prog 82 Value.nilFunc 1 8:=⟨by kernel_rfl⟩
instance iu83:UT Tryz.prog 83 Tryz.t83.desc:=⟨Tryz.underlying83⟩
instance ii83:TI Tryz.prog 83 Value.nilFunc 1 8:=⟨by kernel_rfl⟩
instance iu84:UT Tryz.prog 84 Tryz.t84.desc:=⟨Tryz.underlying84⟩
instance ii84:TI Tryz.prog 84 Value.nilFunc 1 8:=⟨by kernel_rfl⟩
instance iu85:UT Tryz.prog 85 Tryz.t85.desc:=⟨Tryz.underlying85⟩
instance ii85:TI Tryz.prog 85 Value.nilFunc 1 8:=⟨by kernel_rfl⟩
instance iu86:UT Tryz.prog 86 Tryz.t86.desc:=⟨Tryz.underlying86⟩
instance ii86:TI Tryz.prog 86 Value.nilFunc 1 8:=⟨by kernel_rfl⟩
instance iu87:UT Tryz.prog 87 Tryz.t87.desc:=⟨Tryz.underlying87⟩
instance ii87:TI Tryz.prog 87 Value.nilFunc 1 8:=⟨by kernel_rfl⟩
instance iu88:UT Tryz.prog 88 Tryz.t88.desc:=⟨Tryz.underlying88⟩
instance ii88:TI Tryz.prog 88 Value.nilFunc 1 8:=⟨by kernel_rfl⟩
instance iu89:UT Tryz.prog 89 Tryz.t89.desc:=⟨Tryz.underlying89⟩
instance ii89:TI Tryz.prog 89 Value.nilFunc 1 8:=⟨by kernel_rfl⟩
instance iu90:UT Tryz.prog 90 (TypeDesc.map 3 4):=⟨Tryz.underlying90⟩
instance ii90:TI Tryz.prog 90 (Value.map none) 1 8:=⟨by kernel_rfl⟩
instance iu91:UT Tryz.prog 91 (TypeDesc.map 3 4):=⟨Tryz.underlying91⟩
instance ii91:TI Tryz.prog 91 (Value.map none) 1 8:=⟨by kernel_rfl⟩
instance iu92:UT Tryz.prog 92 Tryz.t92.desc:=⟨Tryz.underlying92⟩
instance ii92:TI Tryz.prog 92 Value.nilFunc 1 8:=⟨by kernel_rfl⟩
instance iu93:UT Tryz.prog 93 Tryz.t93.desc:=⟨Tryz.underlying93⟩
instance ii93:TI Tryz.prog 93 Value.nilFunc 1 8:=⟨by kernel_rfl⟩
instance iu94:UT Tryz.prog 94 Tryz.t94.desc:=⟨Tryz.underlying94⟩
instance ii94:TI Tryz.prog 94 Value.nilFunc 1 8:=⟨by kernel_rfl⟩
instance iu95:UT Tryz.prog 95 Tryz.t95.desc:=⟨Tryz.underlying95⟩
instance ii95:TI Tryz.prog 95 Value.nilFunc 1 8:=⟨by kernel_rfl⟩
instance iu96:UT Tryz.prog 96 Tryz.t96.desc:=⟨Tryz.underlying96⟩
instance ii96:TI Tryz.prog 96 Value.nilFunc 1 8:=⟨by kernel_rfl⟩
instance iu97:UT Tryz.prog 97 Tryz.t97.desc:=⟨Tryz.underlying97⟩
instance ii97:TI Tryz.prog 97 Value.nilFunc 1 8:=⟨by kernel_rfl⟩
instance iu98:UT Tryz.prog 98 (TypeDesc.slice 22):=⟨Tryz.underlying98⟩
instance ii98:TI Tryz.prog 98 (Value.slice none 0 0) 1 24:=⟨by kernel_rfl⟩
instance iu99:UT Tryz.prog 99 Tryz.t99.desc:=⟨Tryz.underlying99⟩
instance ii99:TI Tryz.prog 99 Value.nilFunc 1 8:=⟨by kernel_rfl⟩
instance iu100:UT Tryz.prog 100 Tryz.t100.desc:=⟨Tryz.underlying100⟩
instance ii100:TI Tryz.prog 100 Value.nilFunc 1 8:=⟨by kernel_rfl⟩
instance iu101:UT Tryz.prog 101 Tryz.t101.desc:=⟨Tryz.underlying101⟩
instance ii101:TI Tryz.prog 101 (Value.agg #[Value.int IntKind.i64 0,Value.string { data:=#[] },Value.slice none 0 0]) 3 48:=⟨by kernel_rfl⟩
instance ib101:BT Tryz.prog 101 [(0,1),(1,1),(2,1)]:=⟨⟨_,Tryz.underlying101,by kernel_rfl⟩⟩
instance is101_0:SF Tryz.prog 101 0 0 3:=⟨⟨_,_,Tryz.underlying101,rfl,rfl,rfl⟩⟩
instance is101_1:SF Tryz.prog 101 1 1 9:=⟨⟨_,_,Tryz.underlying101,rfl,rfl,rfl⟩⟩
instance is101_2:SF Tryz.prog 101 2 2 22:=⟨⟨_,_,Tryz.underlying101,rfl,rfl,rfl⟩⟩
instance iu102:UT Tryz.prog 102 Tryz.t101.desc:=⟨Tryz.underlying102⟩
instance ii102:TI Tryz.prog 102 (Value.agg #[Value.int IntKind.i64 0,Value.string { data:=#[] },Value.slice none 0 0]) 3 48:=⟨by kernel_rfl⟩
instance ib102:BT Tryz.prog 102 [(0,1),(1,1),(2,1)]:=⟨⟨_,Tryz.underlying102,by kernel_rfl⟩⟩
instance is102_0:SF Tryz.prog 102 0 0 3:=⟨⟨_,_,Tryz.underlying102,rfl,rfl,rfl⟩⟩
instance is102_1:SF Tryz.prog 102 1 1 9:=⟨⟨_,_,Tryz.underlying102,rfl,rfl,rfl⟩⟩
instance is102_2:SF Tryz.prog 102 2 2 22:=⟨⟨_,_,Tryz.underlying102,rfl,rfl,rfl⟩⟩
instance iu103:UT Tryz.prog 103 Tryz.t103.desc:=⟨Tryz.underlying103⟩
instance ii103:TI Tryz.prog 103 Value.nilFunc 1 8:=⟨by kernel_rfl⟩
instance iu104:UT Tryz.prog 104 Tryz.t104.desc:=⟨Tryz.underlying104⟩
instance ii104:TI Tryz.prog 104 Value.nilFunc 1 8:=⟨by kernel_rfl⟩
instance iu105:UT Tryz.prog 105 Tryz.t105.desc:=⟨Tryz.underlying105⟩
instance ii105:TI Tryz.prog 105 (Value.agg #[Value.int IntKind.i64 0,Value.int IntKind.i64 0]) 2 16:=⟨by kernel_rfl⟩
instance ib105:BT Tryz.prog 105 [(0,1),(1,1)]:=⟨⟨_,Tryz.underlying105,by kernel_rfl⟩⟩
instance is105_0:SF Tryz.prog 105 0 0 3:=⟨⟨_,_,Tryz.underlying105,rfl,rfl,rfl⟩⟩
instance is105_1:SF Tryz.prog 105 1 1 3:=⟨⟨_,_,Tryz.underlying105,rfl,rfl,rfl⟩⟩
instance iu106:UT Tryz.prog 106 Tryz.t105.desc:=⟨Tryz.underlying106⟩
instance ii106:TI Tryz.prog 106 (Value.agg #[Value.int IntKind.i64 0,Value.int IntKind.i64 0]) 2 16:=⟨by kernel_rfl⟩
instance ib106:BT Tryz.prog 106 [(0,1),(1,1)]:=⟨⟨_,Tryz.underlying106,by kernel_rfl⟩⟩
instance is106_0:SF Tryz.prog 106 0 0 3:=⟨⟨_,_,Tryz.underlying106,rfl,rfl,rfl⟩⟩
instance is106_1:SF Tryz.prog 106 1 1 3:=⟨⟨_,_,Tryz.underlying106,rfl,rfl,rfl⟩⟩
instance iu107:UT Tryz.prog 107 Tryz.t107.desc:=⟨Tryz.underlying107⟩
instance ii107:TI Tryz.prog 107 Value.nilFunc 1 8:=⟨by kernel_rfl⟩
instance iu108:UT Tryz.prog 108 Tryz.t108.desc:=⟨Tryz.underlying108⟩
instance ii108:TI Tryz.prog 108 Value.nilFunc 1 8:=⟨by kernel_rfl⟩
instance iu109:UT Tryz.prog 109 Tryz.t109.desc:=⟨Tryz.underlying109⟩
instance ii109:TI Tryz.prog 109 Value.nilFunc 1 8:=⟨by kernel_rfl⟩
instance iu110:UT Tryz.prog 110 Tryz.t110.desc:=⟨Tryz.underlying110⟩
instance ii110:TI Tryz.prog 110 Value.nilFunc 1 8:=⟨by kernel_rfl⟩
instance iu111:UT Tryz.prog 111 Tryz.t111.desc:=⟨Tryz.underlying111⟩
instance ii111:TI Tryz.prog 111 (Value.tuple #[Value.slice none 0 0,Value.int IntKind.i64 0]) 1 0:=⟨by kernel_rfl⟩
instance iu112:UT Tryz.prog 112 Tryz.t112.desc:=⟨Tryz.underlying112⟩
instance ii112:TI Tryz.prog 112 Value.nilFunc 1 8:=⟨by kernel_rfl⟩
instance iu113:UT Tryz.prog 113 Tryz.t113.desc:=⟨Tryz.underlying113⟩
instance ii113:TI Tryz.prog 113 (Value.tuple #[Value.slice none 0 0,Value.bool false]) 1 0:=⟨by kernel_rfl⟩
instance iu114:UT Tryz.prog 114 Tryz.t114.desc:=⟨Tryz.underlying114⟩
instance ii114:TI Tryz.prog 114 Value.nilFunc 1 8:=⟨by kernel_rfl⟩
instance iu115:UT Tryz.prog 115 (TypeDesc.slice 4):=⟨Tryz.underlying115⟩
instance ii115:TI Tryz.prog 115 (Value.slice none 0 0) 1 24:=⟨by kernel_rfl⟩
instance iu116:UT Tryz.prog 116 Tryz.t116.desc:=⟨Tryz.underlying116⟩
instance ii116:TI Tryz.prog 116 Value.nilFunc 1 8:=⟨by kernel_rfl⟩
instance iu117:UT Tryz.prog 117 Tryz.t117.desc:=⟨Tryz.underlying117⟩
instance ii117:TI Tryz.prog 117 Value.nilFunc 1 8:=⟨by kernel_rfl⟩
instance iu118:UT Tryz.prog 118 Tryz.t118.desc:=⟨Tryz.underlying118⟩
instance ii118:TI Tryz.prog 118 Value.nilFunc 1 8:=⟨by kernel_rfl⟩
instance iu119:UT Tryz.prog 119 (TypeDesc.map 3 22):=⟨Tryz.underlying119⟩
instance ii119:TI Tryz.prog 119 (Value.map none) 1 8:=⟨by kernel_rfl⟩
instance iu120:UT Tryz.prog 120 Tryz.t120.desc:=⟨Tryz.underlying120⟩
instance ii120:TI Tryz.prog 120 Value.nilFunc 1 8:=⟨by kernel_rfl⟩
instance iu121:UT Tryz.prog 121 Tryz.t121.desc:=⟨Tryz.underlying121⟩
instance ii121:TI Tryz.prog 121 Value.nilFunc 1 8:=⟨by kernel_rfl⟩
instance iu122:UT Tryz.prog 122 Tryz.t122.desc:=⟨Tryz.underlying122⟩
instance ii122:TI Tryz.prog 122 Value.nilFunc 1 8:=⟨by kernel_rfl⟩
instance iu123:UT Tryz.prog 123 Tryz.t123.desc:=⟨Tryz.underlying123⟩
instance ii123:TI Tryz.prog 123 Value.nilFunc 1 8:=⟨by kernel_rfl⟩
instance iu124:UT Tryz.prog 124 Tryz.t124.desc:=⟨Tryz.underlying124⟩
instance ii124:TI Tryz.prog 124 Value.nilFunc 1 8:=⟨by kernel_rfl⟩
instance iu125:UT Tryz.prog 125 Tryz.t125.desc:=⟨Tryz.underlying125⟩
instance ii125:TI Tryz.prog 125 Value.nilFunc 1 8:=⟨by kernel_rfl⟩
instance iu126:UT Tryz.prog 126 (TypeDesc.slice 21):=⟨Tryz.underlying126⟩
instance ii126:TI Tryz.prog 126 (Value.slice none 0 0) 1 24:=⟨by kernel_rfl⟩
instance iu127:UT Tryz.prog 127 (TypeDesc.slice 131):=⟨Tryz.underlying127⟩
instance ii127:TI Tryz.prog 127 (Value.slice none 0 0) 1 24:=⟨by kernel_rfl⟩
instance iu128:UT Tryz.prog 128 Tryz.t128.desc:=⟨Tryz.underlying128⟩
instance ii128:TI Tryz.prog 128 (Value.tuple #[Value.slice none 0 0,Value.bool false]) 1 0:=⟨by kernel_rfl⟩
instance iu129:UT Tryz.prog 129 Tryz.t129.desc:=⟨Tryz.underlying129⟩
instance ii129:TI Tryz.prog 129 Value.nilFunc 1 8:=⟨by kernel_rfl⟩
instance iu130:UT Tryz.prog 130 Tryz.t130.desc:=⟨Tryz.underlying130⟩
instance ii130:TI Tryz.prog 130 (Value.agg #[Value.int IntKind.i64 0,Value.int IntKind.i32 0]) 2 16:=⟨by kernel_rfl⟩
instance ib130:BT Tryz.prog 130 [(0,1),(1,1)]:=⟨⟨_,Tryz.underlying130,by kernel_rfl⟩⟩
instance is130_0:SF Tryz.prog 130 0 0 3:=⟨⟨_,_,Tryz.underlying130,rfl,rfl,rfl⟩⟩
instance is130_1:SF Tryz.prog 130 1 1 21:=⟨⟨_,_,Tryz.underlying130,rfl,rfl,rfl⟩⟩
instance iu131:UT Tryz.prog 131 Tryz.t130.desc:=⟨Tryz.underlying131⟩
instance ii131:TI Tryz.prog 131 (Value.agg #[Value.int IntKind.i64 0,Value.int IntKind.i32 0]) 2 16:=⟨by kernel_rfl⟩
instance ib131:BT Tryz.prog 131 [(0,1),(1,1)]:=⟨⟨_,Tryz.underlying131,by kernel_rfl⟩⟩
instance is131_0:SF Tryz.prog 131 0 0 3:=⟨⟨_,_,Tryz.underlying131,rfl,rfl,rfl⟩⟩
instance is131_1:SF Tryz.prog 131 1 1 21:=⟨⟨_,_,Tryz.underlying131,rfl,rfl,rfl⟩⟩
instance iu132:UT Tryz.prog 132 Tryz.t132.desc:=⟨Tryz.underlying132⟩
instance ii132:TI Tryz.prog 132 Value.nilFunc 1 8:=⟨by kernel_rfl⟩
instance iu133:UT Tryz.prog 133 Tryz.t133.desc:=⟨Tryz.underlying133⟩
instance ii133:TI Tryz.prog 133 Value.nilFunc 1 8:=⟨by kernel_rfl⟩
instance iu134:UT Tryz.prog 134 Tryz.t134.desc:=⟨Tryz.underlying134⟩
instance ii134:TI Tryz.prog 134 Value.nilFunc 1 8:=⟨by kernel_rfl⟩
instance iu135:UT Tryz.prog 135 Tryz.t135.desc:=⟨Tryz.underlying135⟩
instance ii135:TI Tryz.prog 135 (Value.tuple #[Value.int IntKind.i64 0,Value.int IntKind.i64 0]) 1 0:=⟨by kernel_rfl⟩
instance iu136:UT Tryz.prog 136 Tryz.t136.desc:=⟨Tryz.underlying136⟩
instance ii136:TI Tryz.prog 136 Value.nilFunc 1 8:=⟨by kernel_rfl⟩
instance iu137:UT Tryz.prog 137 Tryz.t137.desc:=⟨Tryz.underlying137⟩
instance ii137:TI Tryz.prog 137 Value.nilFunc 1 8:=⟨by kernel_rfl⟩
instance iu138:UT Tryz.prog 138 Tryz.t138.desc:=⟨Tryz.underlying138⟩
instance ii138:TI Tryz.prog 138 Value.nilFunc 1 8:=⟨by kernel_rfl⟩
instance iu139:UT Tryz.prog 139 Tryz.t139.desc:=⟨Tryz.underlying139⟩
instance ii139:TI Tryz.prog 139 Value.nilFunc 1 8:=⟨by kernel_rfl⟩
instance iu140:UT Tryz.prog 140 Tryz.t140.desc:=⟨Tryz.underlying140⟩
instance ii140:TI Tryz.prog 140 Value.nilFunc 1 8:=⟨by kernel_rfl⟩
instance iu141:UT Tryz.prog 141 Tryz.t140.desc:=⟨Tryz.underlying141⟩
instance ii141:TI Tryz.prog 141 Value.nilFunc 1 8:=⟨by kernel_rfl⟩
instance iu142:UT Tryz.prog 142 Tryz.t142.desc:=⟨Tryz.underlying142⟩
instance ii142:TI Tryz.prog 142 Value.nilFunc 1 8:=⟨by kernel_rfl⟩
instance iu143:UT Tryz.prog 143 Tryz.t143.desc:=⟨Tryz.underlying143⟩
instance ii143:TI Tryz.prog 143 (Value.tuple #[Value.int IntKind.i64 0,Value.bool false]) 1 0:=⟨by kernel_rfl⟩
instance iu144:UT Tryz.prog 144 Tryz.t144.desc:=⟨Tryz.underlying144⟩
instance ii144:TI Tryz.prog 144 Value.nilFunc 1 8:=⟨by kernel_rfl⟩
instance iu145:UT Tryz.prog 145 Tryz.t145.desc:=⟨Tryz.underlying145⟩
instance ii145:TI Tryz.prog 145 Value.nilFunc 1 8:=⟨by kernel_rfl⟩
instance iu146:UT Tryz.prog 146 Tryz.t146.desc:=⟨Tryz.underlying146⟩
instance ii146:TI Tryz.prog 146 Value.nilFunc 1 8:=⟨by kernel_rfl⟩
instance iu147:UT Tryz.prog 147 Tryz.t147.desc:=⟨Tryz.underlying147⟩
instance ii147:TI Tryz.prog 147 Value.nilFunc 1 8:=⟨by kernel_rfl⟩
instance iu148:UT Tryz.prog 148 Tryz.t148.desc:=⟨Tryz.underlying148⟩
instance ii148:TI Tryz.prog 148 Value.nilFunc 1 8:=⟨by kernel_rfl⟩
instance iu149:UT Tryz.prog 149 Tryz.t149.desc:=⟨Tryz.underlying149⟩
instance ii149:TI Tryz.prog 149 Value.nilFunc 1 8:=⟨by kernel_rfl⟩
instance iu150:UT Tryz.prog 150 (TypeDesc.slice 72):=⟨Tryz.underlying150⟩
instance ii150:TI Tryz.prog 150 (Value.slice none 0 0) 1 24:=⟨by kernel_rfl⟩
instance iu151:UT Tryz.prog 151 Tryz.t151.desc:=⟨Tryz.underlying151⟩
instance ii151:TI Tryz.prog 151 Value.nilFunc 1 8:=⟨by kernel_rfl⟩
instance iu152:UT Tryz.prog 152 Tryz.t152.desc:=⟨Tryz.underlying152⟩
instance ii152:TI Tryz.prog 152 Value.nilFunc 1 8:=⟨by kernel_rfl⟩
instance iu153:UT Tryz.prog 153 Tryz.t153.desc:=⟨Tryz.underlying153⟩
instance ii153:TI Tryz.prog 153 Value.nilFunc 1 8:=⟨by kernel_rfl⟩
instance iu154:UT Tryz.prog 154 Tryz.t154.desc:=⟨Tryz.underlying154⟩
instance ii154:TI Tryz.prog 154 Value.nilFunc 1 8:=⟨by kernel_rfl⟩
instance iu155:UT Tryz.prog 155 Tryz.t154.desc:=⟨Tryz.underlying155⟩
instance ii155:TI Tryz.prog 155 Value.nilFunc 1 8:=⟨by kernel_rfl⟩
instance iu156:UT Tryz.prog 156 Tryz.t156.desc:=⟨Tryz.underlying156⟩
instance ii156:TI Tryz.prog 156 Value.nilFunc 1 8:=⟨by kernel_rfl⟩
instance iu157:UT Tryz.prog 157 Tryz.t157.desc:=⟨Tryz.underlying157⟩
instance ii157:TI Tryz.prog 157 Value.nilFunc 1 8:=⟨by kernel_rfl⟩
instance iu158:UT Tryz.prog 158 Tryz.t158.desc:=⟨Tryz.underlying158⟩
instance ii158:TI Tryz.prog 158 Value.nilFunc 1 8:=⟨by kernel_rfl⟩
instance iu159:UT Tryz.prog 159 Tryz.t159.desc:=⟨Tryz.underlying159⟩
instance ii159:TI Tryz.prog 159 Value.nilFunc 1 8:=⟨by kernel_rfl⟩
instance iu160:UT Tryz.prog 160 Tryz.t160.desc:=⟨Tryz.underlying160⟩
instance ii160:TI Tryz.prog 160 Value.nilFunc 1 8:=⟨by kernel_rfl⟩
instance iu161:UT Tryz.prog 161 Tryz.t161.desc:=⟨Tryz.underlying161⟩
instance ii161:TI Tryz.prog 161 Value.nilFunc 1 8:=⟨by kernel_rfl⟩
instance iu162:UT Tryz.prog 162 Tryz.t162.desc:=⟨Tryz.underlying162⟩
instance ii162:TI Tryz.prog 162 Value.nilFunc 1 8:=⟨by kernel_rfl⟩
instance iu163:UT Tryz.prog 163 Tryz.t163.desc:=⟨Tryz.underlying163⟩
instance ii163:TI Tryz.prog 163 Value.nilFunc 1 8:=⟨by kernel_rfl⟩
instance iu164:UT Tryz.prog 164 Tryz.t164.desc:=⟨Tryz.underlying164⟩
instance ii164:TI Tryz.prog 164 Value.nilFunc 1 8:=⟨by kernel_rfl⟩
instance iu165:UT Tryz.prog 165 Tryz.t165.desc:=⟨Tryz.underlying165⟩
instance ii165:TI Tryz.prog 165 Value.nilFunc 1 8:=⟨by kernel_rfl⟩
instance iu166:UT Tryz.prog 166 Tryz.t166.desc:=⟨Tryz.underlying166⟩
instance ii166:TI Tryz.prog 166 Value.nilFunc 1 8:=⟨by kernel_rfl⟩
instance iu167:UT Tryz.prog 167 Tryz.t167.desc:=⟨Tryz.underlying167⟩
instance ii167:TI Tryz.prog 167 Value.nilFunc 1 8:=⟨by kernel_rfl⟩
instance iu168:UT Tryz.prog 168 Tryz.t168.desc:=⟨Tryz.underlying168⟩
instance ii168:TI Tryz.prog 168 Value.nilFunc 1 8:=⟨by kernel_rfl⟩
instance iu169:UT Tryz.prog 169 (TypeDesc.array 256 5):=⟨Tryz.underlying169⟩
instance ii169:TI Tryz.prog 169 (Value.agg (([Value.int IntKind.u8 0,Value.int IntKind.u8 0,Value.int IntKind.u8 0,Value.int IntKind.u8 0,Value.int IntKind.u8 0,Value.int IntKind.u8 0,Value.int IntKind.u8 0,Value.int IntKind.u8 0,Value.int IntKind.u8 0,Value.int IntKind.u8 0,Value.int IntKind.u8 0,Value.int IntKind.u8 0,Value.int IntKind.u8 0,Value.int IntKind.u8 0,Value.int IntKind.u8 0,Value.int IntKind.u8 0,Value.int IntKind.u8 0,Value.int IntKind.u8 0,Value.int IntKind.u8 0,Value.int IntKind.u8 0,Value.int IntKind.u8 0,Value.int IntKind.u8 0,Value.int IntKind.u8 0,Value.int IntKind.u8 0,Value.int IntKind.u8 0,Value.int IntKind.u8 0,Value.int IntKind.u8 0,Value.int IntKind.u8 0,Value.int IntKind.u8 0,Value.int IntKind.u8 0,Value.int IntKind.u8 0,Value.int IntKind.u8 0,Value.int IntKind.u8 0,Value.int IntKind.u8 0,Value.int IntKind.u8 0,Value.int IntKind.u8 0,Value.int IntKind.u8 0,Value.int IntKind.u8 0,Value.int IntKind.u8 0,Value.int IntKind.u8 0,Value.int IntKind.u8 0,Value.int IntKind.u8 0,Value.int IntKind.u8 0,Value.int IntKind.u8 0,Value.int IntKind.u8 0,Value.int IntKind.u8 0,Value.int IntKind.u8 0,Value.int IntKind.u8 0,Value.int IntKind.u8 0,Value.int IntKind.u8 0,Value.int IntKind.u8 0,Value.int IntKind.u8 0,Value.int IntKind.u8 0,Value.int IntKind.u8 0,Value.int IntKind.u8 0,Value.int IntKind.u8 0,Value.int IntKind.u8 0,Value.int IntKind.u8 0,Value.int IntKind.u8 0,Value.int IntKind.u8 0,Value.int IntKind.u8 0,Value.int IntKind.u8 0,Value.int IntKind.u8 0,Value.int IntKind.u8 0].append [Value.int IntKind.u8 0,Value.int IntKind.u8 0,Value.int IntKind.u8 0,Value.int IntKind.u8 0,Value.int IntKind.u8 0,Value.int IntKind.u8 0,Value.int IntKind.u8 0,Value.int IntKind.u8 0,Value.int IntKind.u8 0,Value.int IntKind.u8 0,Value.int IntKind.u8 0,Value.int IntKind.u8 0,Value.int IntKind.u8 0,Value.int IntKind.u8 0,Value.int IntKind.u8 0,Value.int IntKind.u8 0,Value.int IntKind.u8 0,Value.int IntKind.u8 0,Value.int IntKind.u8 0,Value.int IntKind.u8 0,Value.int IntKind.u8 0,Value.int IntKind.u8 0,Value.int IntKind.u8 0,Value.int IntKind.u8 0,Value.int IntKind.u8 0,Value.int IntKind.u8 0,Value.int IntKind.u8 0,Value.int IntKind.u8 0,Value.int IntKind.u8 0,Value.int IntKind.u8 0,Value.int IntKind.u8 0,Value.int IntKind.u8 0,Value.int IntKind.u8 0,Value.int IntKind.u8 0,Value.int IntKind.u8 0,Value.int IntKind.u8 0,Value.int IntKind.u8 0,Value.int IntKind.u8 0,Value.int IntKind.u8 0,Value.int IntKind.u8 0,Value.int IntKind.u8 0,Value.int IntKind.u8 0,Value.int IntKind.u8 0,Value.int IntKind.u8 0,Value.int IntKind.u8 0,Value.int IntKind.u8 0,Value.int IntKind.u8 0,Value.int IntKind.u8 0,Value.int IntKind.u8 0,Value.int IntKind.u8 0,Value.int IntKind.u8 0,Value.int IntKind.u8 0,Value.int IntKind.u8 0,Value.int IntKind.u8 0,Value.int IntKind.u8 0,Value.int IntKind.u8 0,Value.int IntKind.u8 0,Value.int IntKind.u8 0,Value.int IntKind.u8 0,Value.int IntKind.u8 0,Value.int IntKind.u8 0,Value.int IntKind.u8 0,Value.int IntKind.u8 0,Value.int IntKind.u8 0]).append ([Value.int IntKind.u8 0,Value.int IntKind.u8 0,Value.int IntKind.u8 0,Value.int IntKind.u8 0,Value.int IntKind.u8 0,Value.int IntKind.u8 0,Value.int IntKind.u8 0,Value.int IntKind.u8 0,Value.int IntKind.u8 0,Value.int IntKind.u8 0,Value.int IntKind.u8 0,Value.int IntKind.u8 0,Value.int IntKind.u8 0,Value.int IntKind.u8 0,Value.int IntKind.u8 0,Value.int IntKind.u8 0,Value.int IntKind.u8 0,Value.int IntKind.u8 0,Value.int IntKind.u8 0,Value.int IntKind.u8 0,Value.int IntKind.u8 0,Value.int IntKind.u8 0,Value.int IntKind.u8 0,Value.int IntKind.u8 0,Value.int IntKind.u8 0,Value.int IntKind.u8 0,Value.int IntKind.u8 0,Value.int IntKind.u8 0,Value.int IntKind.u8 0,Value.int IntKind.u8 0,Value.int IntKind.u8 0,Value.int IntKind.u8 0,Value.int IntKind.u8 0,Value.int IntKind.u8 0,Value.int IntKind.u8 0,Value.int IntKind.u8 0,Value.int IntKind.u8 0,Value.int IntKind.u8 0,Value.int IntKind.u8 0,Value.int IntKind.u8 0,Value.int IntKind.u8 0,Value.int IntKind.u8 0,Value.int IntKind.u8 0,Value.int IntKind.u8 0,Value.int IntKind.u8 0,Value.int IntKind.u8 0,Value.int IntKind.u8 0,Value.int IntKind.u8 0,Value.int IntKind.u8 0,Value.int IntKind.u8 0,Value.int IntKind.u8 0,Value.int IntKind.u8 0,Value.int IntKind.u8 0,Value.int IntKind.u8 0,Value.int IntKind.u8 0,Value.int IntKind.u8 0,Value.int IntKind.u8 0,Value.int IntKind.u8 0,Value.int IntKind.u8 0,Value.int IntKind.u8 0,Value.int IntKind.u8 0,Value.int IntKind.u8 0,Value.int IntKind.u8 0,Value.int IntKind.u8 0].append [Value.int IntKind.u8 0,Value.int IntKind.u8 0,Value.int IntKind.u8 0,Value.int IntKind.u8 0,Value.int IntKind.u8 0,Value.int IntKind.u8 0,Value.int IntKind.u8 0,Value.int IntKind.u8 0,Value.int IntKind.u8 0,Value.int IntKind.u8 0,Value.int IntKind.u8 0,Value.int IntKind.u8 0,Value.int IntKind.u8 0,Value.int IntKind.u8 0,Value.int IntKind.u8 0,Value.int IntKind.u8 0,Value.int IntKind.u8 0,Value.int IntKind.u8 0,Value.int IntKind.u8 0,Value.int IntKind.u8 0,Value.int IntKind.u8 0,Value.int IntKind.u8 0,Value.int IntKind.u8 0,Value.int IntKind.u8 0,Value.int IntKind.u8 0,Value.int IntKind.u8 0,Value.int IntKind.u8 0,Value.int IntKind.u8 0,Value.int IntKind.u8 0,Value.int IntKind.u8 0,Value.int IntKind.u8 0,Value.int IntKind.u8 0,Value.int IntKind.u8 0,Value.int IntKind.u8 0,Value.int IntKind.u8 0,Value.int IntKind.u8 0,Value.int IntKind.u8 0,Value.int IntKind.u8 0,Value.int IntKind.u8 0,Value.int IntKind.u8 0,Value.int IntKind.u8 0,Value.int IntKind.u8 0,Value.int IntKind.u8 0,Value.int IntKind.u8 0,Value.int IntKind.u8 0,Value.int IntKind.u8 0,Value.int IntKind.u8 0,Value.int IntKind.u8 0,Value.int IntKind.u8 0,Value.int IntKind.u8 0,Value.int IntKind.u8 0,Value.int IntKind.u8 0,Value.int IntKind.u8 0,Value.int IntKind.u8 0,Value.int IntKind.u8 0,Value.int IntKind.u8 0,Value.int IntKind.u8 0,Value.int IntKind.u8 0,Value.int IntKind.u8 0,Value.int IntKind.u8 0,Value.int IntKind.u8 0,Value.int IntKind.u8 0,Value.int IntKind.u8 0,Value.int IntKind.u8 0])).toArray) 256 256:=⟨by kernel_rfl⟩
instance iu170:UT Tryz.prog 170 Tryz.t170.desc:=⟨Tryz.underlying170⟩
instance ii170:TI Tryz.prog 170 (Value.agg #[Value.int IntKind.u8 0,Value.int IntKind.u8 0]) 2 2:=⟨by kernel_rfl⟩
instance ib170:BT Tryz.prog 170 [(0,1),(1,1)]:=⟨⟨_,Tryz.underlying170,by kernel_rfl⟩⟩
instance is170_0:SF Tryz.prog 170 0 0 5:=⟨⟨_,_,Tryz.underlying170,rfl,rfl,rfl⟩⟩
instance is170_1:SF Tryz.prog 170 1 1 5:=⟨⟨_,_,Tryz.underlying170,rfl,rfl,rfl⟩⟩
instance iu171:UT Tryz.prog 171 Tryz.t170.desc:=⟨Tryz.underlying171⟩
instance ii171:TI Tryz.prog 171 (Value.agg #[Value.int IntKind.u8 0,Value.int IntKind.u8 0]) 2 2:=⟨by kernel_rfl⟩
instance ib171:BT Tryz.prog 171 [(0,1),(1,1)]:=⟨⟨_,Tryz.underlying171,by kernel_rfl⟩⟩
instance is171_0:SF Tryz.prog 171 0 0 5:=⟨⟨_,_,Tryz.underlying171,rfl,rfl,rfl⟩⟩
instance is171_1:SF Tryz.prog 171 1 1 5:=⟨⟨_,_,Tryz.underlying171,rfl,rfl,rfl⟩⟩
instance iu172:UT Tryz.prog 172 (TypeDesc.array 16 171):=⟨Tryz.underlying172⟩
instance ii172:TI Tryz.prog 172 (Value.agg #[Value.int IntKind.u8 0,Value.int IntKind.u8 0,Value.int IntKind.u8 0,Value.int IntKind.u8 0,Value.int IntKind.u8 0,Value.int IntKind.u8 0,Value.int IntKind.u8 0,Value.int IntKind.u8 0,Value.int IntKind.u8 0,Value.int IntKind.u8 0,Value.int IntKind.u8 0,Value.int IntKind.u8 0,Value.int IntKind.u8 0,Value.int IntKind.u8 0,Value.int IntKind.u8 0,Value.int IntKind.u8 0,Value.int IntKind.u8 0,Value.int IntKind.u8 0,Value.int IntKind.u8 0,Value.int IntKind.u8 0,Value.int IntKind.u8 0,Value.int IntKind.u8 0,Value.int IntKind.u8 0,Value.int IntKind.u8 0,Value.int IntKind.u8 0,Value.int IntKind.u8 0,Value.int IntKind.u8 0,Value.int IntKind.u8 0,Value.int IntKind.u8 0,Value.int IntKind.u8 0,Value.int IntKind.u8 0,Value.int IntKind.u8 0]) 32 32:=⟨by kernel_rfl⟩
instance iu173:UT Tryz.prog 173 (TypeDesc.int IntKind.u64):=⟨Tryz.underlying173⟩
instance ii173:TI Tryz.prog 173 (Value.int IntKind.u64 0) 1 8:=⟨by kernel_rfl⟩
instance iu174:UT Tryz.prog 174 Tryz.t174.desc:=⟨Tryz.underlying174⟩
instance ii174:TI Tryz.prog 174 Value.nilFunc 1 8:=⟨by kernel_rfl⟩
instance iu175:UT Tryz.prog 175 Tryz.t175.desc:=⟨Tryz.underlying175⟩
instance ii175:TI Tryz.prog 175 Value.nilFunc 1 8:=⟨by kernel_rfl⟩
instance iu176:UT Tryz.prog 176 (TypeDesc.slice 5):=⟨Tryz.underlying176⟩
instance ii176:TI Tryz.prog 176 (Value.slice none 0 0) 1 24:=⟨by kernel_rfl⟩
instance iu177:UT Tryz.prog 177 Tryz.t177.desc:=⟨Tryz.underlying177⟩
instance ii177:TI Tryz.prog 177 Value.nilFunc 1 8:=⟨by kernel_rfl⟩
instance iu178:UT Tryz.prog 178 Tryz.t178.desc:=⟨Tryz.underlying178⟩
instance ii178:TI Tryz.prog 178 Value.nilFunc 1 8:=⟨by kernel_rfl⟩
instance iu179:UT Tryz.prog 179 Tryz.t179.desc:=⟨Tryz.underlying179⟩
instance ii179:TI Tryz.prog 179 Value.nilFunc 1 8:=⟨by kernel_rfl⟩
instance iu180:UT Tryz.prog 180 Tryz.t180.desc:=⟨Tryz.underlying180⟩
instance ii180:TI Tryz.prog 180 Value.nilFunc 1 8:=⟨by kernel_rfl⟩
instance iu181:UT Tryz.prog 181 Tryz.t181.desc:=⟨Tryz.underlying181⟩
instance ii181:TI Tryz.prog 181 Value.nilFunc 1 8:=⟨by kernel_rfl⟩
instance iu182:UT Tryz.prog 182 Tryz.t182.desc:=⟨Tryz.underlying182⟩
instance ii182:TI Tryz.prog 182 Value.nilFunc 1 8:=⟨by kernel_rfl⟩
instance iu183:UT Tryz.prog 183 Tryz.t183.desc:=⟨Tryz.underlying183⟩
instance ii183:TI Tryz.prog 183 Value.nilFunc 1 8:=⟨by kernel_rfl⟩
instance iu184:UT Tryz.prog 184 (TypeDesc.int IntKind.u64):=⟨Tryz.underlying184⟩
instance ii184:TI Tryz.prog 184 (Value.int IntKind.u64 0) 1 8:=⟨by kernel_rfl⟩
instance iu185:UT Tryz.prog 185 Tryz.t185.desc:=⟨Tryz.underlying185⟩
instance ii185:TI Tryz.prog 185 Value.nilFunc 1 8:=⟨by kernel_rfl⟩
instance iu186:UT Tryz.prog 186 (TypeDesc.int IntKind.i64):=⟨Tryz.underlying186⟩
instance ii186:TI Tryz.prog 186 (Value.int IntKind.i64 0) 1 8:=⟨by kernel_rfl⟩
instance iu187:UT Tryz.prog 187 Tryz.t187.desc:=⟨Tryz.underlying187⟩
instance ii187:TI Tryz.prog 187 (Value.tuple #[Value.int IntKind.i64 0,Value.int IntKind.i64 0]) 1 0:=⟨by kernel_rfl⟩
instance iu188:UT Tryz.prog 188 Tryz.t188.desc:=⟨Tryz.underlying188⟩
instance ii188:TI Tryz.prog 188 Value.nilFunc 1 8:=⟨by kernel_rfl⟩
instance iu189:UT Tryz.prog 189 Tryz.t189.desc:=⟨Tryz.underlying189⟩
instance ii189:TI Tryz.prog 189 Value.nilFunc 1 8:=⟨by kernel_rfl⟩
instance iu190:UT Tryz.prog 190 Tryz.t190.desc:=⟨Tryz.underlying190⟩
instance ii190:TI Tryz.prog 190 Value.nilFunc 1 8:=⟨by kernel_rfl⟩
instance iu191:UT Tryz.prog 191 Tryz.t191.desc:=⟨Tryz.underlying191⟩
instance ii191:TI Tryz.prog 191 Value.nilFunc 1 8:=⟨by kernel_rfl⟩
instance iu192:UT Tryz.prog 192 Tryz.t192.desc:=⟨Tryz.underlying192⟩
instance ii192:TI Tryz.prog 192 Value.nilFunc 1 8:=⟨by kernel_rfl⟩
instance iu193:UT Tryz.prog 193 (TypeDesc.int IntKind.u32):=⟨Tryz.underlying193⟩
instance ii193:TI Tryz.prog 193 (Value.int IntKind.u32 0) 1 4:=⟨by kernel_rfl⟩
instance iu194:UT Tryz.prog 194 Tryz.t194.desc:=⟨Tryz.underlying194⟩
instance ii194:TI Tryz.prog 194 Value.nilFunc 1 8:=⟨by kernel_rfl⟩
instance iu195:UT Tryz.prog 195 (TypeDesc.int IntKind.u64):=⟨Tryz.underlying195⟩
instance ii195:TI Tryz.prog 195 (Value.int IntKind.u64 0) 1 8:=⟨by kernel_rfl⟩
instance iu196:UT Tryz.prog 196 Tryz.t196.desc:=⟨Tryz.underlying196⟩
instance ii196:TI Tryz.prog 196 Value.nilFunc 1 8:=⟨by kernel_rfl⟩
instance iu197:UT Tryz.prog 197 Tryz.t197.desc:=⟨Tryz.underlying197⟩
instance ii197:TI Tryz.prog 197 Value.nilFunc 1 8:=⟨by kernel_rfl⟩
instance iu198:UT Tryz.prog 198 Tryz.t198.desc:=⟨Tryz.underlying198⟩
instance ii198:TI Tryz.prog 198 Value.nilFunc 1 8:=⟨by kernel_rfl⟩
instance iu199:UT Tryz.prog 199 (TypeDesc.pointer 3):=⟨Tryz.underlying199⟩
instance ii199:TI Tryz.prog 199 (Value.pointer none) 1 8:=⟨by kernel_rfl⟩
instance iu200:UT Tryz.prog 200 Tryz.t200.desc:=⟨Tryz.underlying200⟩
instance ii200:TI Tryz.prog 200 Value.nilFunc 1 8:=⟨by kernel_rfl⟩
instance iu201:UT Tryz.prog 201 (TypeDesc.pointer 195):=⟨Tryz.underlying201⟩
instance ii201:TI Tryz.prog 201 (Value.pointer none) 1 8:=⟨by kernel_rfl⟩
instance iu202:UT Tryz.prog 202 Tryz.t202.desc:=⟨Tryz.underlying202⟩
instance ii202:TI Tryz.prog 202 Value.nilFunc 1 8:=⟨by kernel_rfl⟩
instance iu203:UT Tryz.prog 203 Tryz.t203.desc:=⟨Tryz.underlying203⟩
instance ii203:TI Tryz.prog 203 Value.nilFunc 1 8:=⟨by kernel_rfl⟩
instance iu204:UT Tryz.prog 204 Tryz.t204.desc:=⟨Tryz.underlying204⟩
instance ii204:TI Tryz.prog 204 (Value.agg #[Value.pointer none,Value.pointer none,Value.pointer none,Value.string { data:=#[] }]) 4 40:=⟨by kernel_rfl⟩
instance ib204:BT Tryz.prog 204 [(0,1),(1,1),(2,1),(3,1)]:=⟨⟨_,Tryz.underlying204,by kernel_rfl⟩⟩
instance is204_0:SF Tryz.prog 204 0 0 17:=⟨⟨_,_,Tryz.underlying204,rfl,rfl,rfl⟩⟩
instance is204_1:SF Tryz.prog 204 1 1 17:=⟨⟨_,_,Tryz.underlying204,rfl,rfl,rfl⟩⟩
instance is204_2:SF Tryz.prog 204 2 2 17:=⟨⟨_,_,Tryz.underlying204,rfl,rfl,rfl⟩⟩
instance is204_3:SF Tryz.prog 204 3 3 9:=⟨⟨_,_,Tryz.underlying204,rfl,rfl,rfl⟩⟩
instance iu205:UT Tryz.prog 205 Tryz.t204.desc:=⟨Tryz.underlying205⟩
instance ii205:TI Tryz.prog 205 (Value.agg #[Value.pointer none,Value.pointer none,Value.pointer none,Value.string { data:=#[] }]) 4 40:=⟨by kernel_rfl⟩
instance ib205:BT Tryz.prog 205 [(0,1),(1,1),(2,1),(3,1)]:=⟨⟨_,Tryz.underlying205,by kernel_rfl⟩⟩
instance is205_0:SF Tryz.prog 205 0 0 17:=⟨⟨_,_,Tryz.underlying205,rfl,rfl,rfl⟩⟩
instance is205_1:SF Tryz.prog 205 1 1 17:=⟨⟨_,_,Tryz.underlying205,rfl,rfl,rfl⟩⟩
instance is205_2:SF Tryz.prog 205 2 2 17:=⟨⟨_,_,Tryz.underlying205,rfl,rfl,rfl⟩⟩
instance is205_3:SF Tryz.prog 205 3 3 9:=⟨⟨_,_,Tryz.underlying205,rfl,rfl,rfl⟩⟩
instance iu206:UT Tryz.prog 206 (TypeDesc.array 0 16):=⟨Tryz.underlying206⟩
instance ii206:TI Tryz.prog 206 (Value.agg #[]) 0 0:=⟨by kernel_rfl⟩
instance iu207:UT Tryz.prog 207 Tryz.t207.desc:=⟨Tryz.underlying207⟩
instance ii207:TI Tryz.prog 207 (Value.agg #[]) 0 0:=⟨by kernel_rfl⟩
instance ib207:BT Tryz.prog 207 [(0,0)]:=⟨⟨_,Tryz.underlying207,by kernel_rfl⟩⟩
instance is207_0:SF Tryz.prog 207 0 0 206:=⟨⟨_,_,Tryz.underlying207,rfl,rfl,rfl⟩⟩
instance iu208:UT Tryz.prog 208 Tryz.t207.desc:=⟨Tryz.underlying208⟩
instance ii208:TI Tryz.prog 208 (Value.agg #[]) 0 0:=⟨by kernel_rfl⟩
instance ib208:BT Tryz.prog 208 [(0,0)]:=⟨⟨_,Tryz.underlying208,by kernel_rfl⟩⟩
instance is208_0:SF Tryz.prog 208 0 0 206:=⟨⟨_,_,Tryz.underlying208,rfl,rfl,rfl⟩⟩
instance iu209:UT Tryz.prog 209 Tryz.t209.desc:=⟨Tryz.underlying209⟩
instance ii209:TI Tryz.prog 209 Value.nilFunc 1 8:=⟨by kernel_rfl⟩
instance iu210:UT Tryz.prog 210 (TypeDesc.int IntKind.u8):=⟨Tryz.underlying210⟩
instance ii210:TI Tryz.prog 210 (Value.int IntKind.u8 0) 1 1:=⟨by kernel_rfl⟩
instance iu211:UT Tryz.prog 211 (TypeDesc.int IntKind.u8):=⟨Tryz.underlying211⟩
instance ii211:TI Tryz.prog 211 (Value.int IntKind.u8 0) 1 1:=⟨by kernel_rfl⟩
instance iu212:UT Tryz.prog 212 Tryz.t212.desc:=⟨Tryz.underlying212⟩
instance ii212:TI Tryz.prog 212 Value.nilFunc 1 8:=⟨by kernel_rfl⟩
instance iu213:UT Tryz.prog 213 (TypeDesc.pointer 5):=⟨Tryz.underlying213⟩
instance ii213:TI Tryz.prog 213 (Value.pointer none) 1 8:=⟨by kernel_rfl⟩
instance iu214:UT Tryz.prog 214 (TypeDesc.int IntKind.i32):=⟨Tryz.underlying214⟩
instance ii214:TI Tryz.prog 214 (Value.int IntKind.i32 0) 1 4:=⟨by kernel_rfl⟩
instance iu215:UT Tryz.prog 215 (TypeDesc.int IntKind.i32):=⟨Tryz.underlying215⟩
instance ii215:TI Tryz.prog 215 (Value.int IntKind.i32 0) 1 4:=⟨by kernel_rfl⟩
instance iu216:UT Tryz.prog 216 Tryz.t216.desc:=⟨Tryz.underlying216⟩
instance ii216:TI Tryz.prog 216 (Value.agg #[Value.int IntKind.u64 0,Value.int IntKind.u64 0,Value.int IntKind.u32 0,Value.int IntKind.u8 0,Value.int IntKind.u8 0,Value.int IntKind.u8 0,Value.int IntKind.u8 0,Value.nilFunc,Value.pointer none,Value.int IntKind.i32 0,Value.int IntKind.i32 0]) 11 48:=⟨by kernel_rfl⟩
instance ib216:BT Tryz.prog 216 [(0,1),(1,1),(2,1),(3,1),(4,1),(5,1),(6,1),(7,1),(8,1),(9,1),(10,1)]:=⟨⟨_,Tryz.underlying216,by kernel_rfl⟩⟩
instance is216_0:SF Tryz.prog 216 0 0 12:=⟨⟨_,_,Tryz.underlying216,rfl,rfl,rfl⟩⟩
instance is216_1:SF Tryz.prog 216 1 1 12:=⟨⟨_,_,Tryz.underlying216,rfl,rfl,rfl⟩⟩
instance is216_2:SF Tryz.prog 216 2 2 193:=⟨⟨_,_,Tryz.underlying216,rfl,rfl,rfl⟩⟩
instance is216_3:SF Tryz.prog 216 3 3 210:=⟨⟨_,_,Tryz.underlying216,rfl,rfl,rfl⟩⟩
instance is216_4:SF Tryz.prog 216 4 4 5:=⟨⟨_,_,Tryz.underlying216,rfl,rfl,rfl⟩⟩
instance is216_5:SF Tryz.prog 216 5 5 5:=⟨⟨_,_,Tryz.underlying216,rfl,rfl,rfl⟩⟩
instance is216_6:SF Tryz.prog 216 6 6 211:=⟨⟨_,_,Tryz.underlying216,rfl,rfl,rfl⟩⟩
instance is216_7:SF Tryz.prog 216 7 7 212:=⟨⟨_,_,Tryz.underlying216,rfl,rfl,rfl⟩⟩
instance is216_8:SF Tryz.prog 216 8 8 213:=⟨⟨_,_,Tryz.underlying216,rfl,rfl,rfl⟩⟩
instance is216_9:SF Tryz.prog 216 9 9 214:=⟨⟨_,_,Tryz.underlying216,rfl,rfl,rfl⟩⟩
instance is216_10:SF Tryz.prog 216 10 10 215:=⟨⟨_,_,Tryz.underlying216,rfl,rfl,rfl⟩⟩
instance iu217:UT Tryz.prog 217 Tryz.t216.desc:=⟨Tryz.underlying217⟩
instance ii217:TI Tryz.prog 217 (Value.agg #[Value.int IntKind.u64 0,Value.int IntKind.u64 0,Value.int IntKind.u32 0,Value.int IntKind.u8 0,Value.int IntKind.u8 0,Value.int IntKind.u8 0,Value.int IntKind.u8 0,Value.nilFunc,Value.pointer none,Value.int IntKind.i32 0,Value.int IntKind.i32 0]) 11 48:=⟨by kernel_rfl⟩
instance ib217:BT Tryz.prog 217 [(0,1),(1,1),(2,1),(3,1),(4,1),(5,1),(6,1),(7,1),(8,1),(9,1),(10,1)]:=⟨⟨_,Tryz.underlying217,by kernel_rfl⟩⟩
instance is217_0:SF Tryz.prog 217 0 0 12:=⟨⟨_,_,Tryz.underlying217,rfl,rfl,rfl⟩⟩
instance is217_1:SF Tryz.prog 217 1 1 12:=⟨⟨_,_,Tryz.underlying217,rfl,rfl,rfl⟩⟩
instance is217_2:SF Tryz.prog 217 2 2 193:=⟨⟨_,_,Tryz.underlying217,rfl,rfl,rfl⟩⟩
instance is217_3:SF Tryz.prog 217 3 3 210:=⟨⟨_,_,Tryz.underlying217,rfl,rfl,rfl⟩⟩
instance is217_4:SF Tryz.prog 217 4 4 5:=⟨⟨_,_,Tryz.underlying217,rfl,rfl,rfl⟩⟩
instance is217_5:SF Tryz.prog 217 5 5 5:=⟨⟨_,_,Tryz.underlying217,rfl,rfl,rfl⟩⟩
instance is217_6:SF Tryz.prog 217 6 6 211:=⟨⟨_,_,Tryz.underlying217,rfl,rfl,rfl⟩⟩
instance is217_7:SF Tryz.prog 217 7 7 212:=⟨⟨_,_,Tryz.underlying217,rfl,rfl,rfl⟩⟩
instance is217_8:SF Tryz.prog 217 8 8 213:=⟨⟨_,_,Tryz.underlying217,rfl,rfl,rfl⟩⟩
instance is217_9:SF Tryz.prog 217 9 9 214:=⟨⟨_,_,Tryz.underlying217,rfl,rfl,rfl⟩⟩
instance is217_10:SF Tryz.prog 217 10 10 215:=⟨⟨_,_,Tryz.underlying217,rfl,rfl,rfl⟩⟩
instance iu218:UT Tryz.prog 218 (TypeDesc.unsafePointer):=⟨Tryz.underlying218⟩
instance ii218:TI Tryz.prog 218 (Value.pointer none) 1 8:=⟨by kernel_rfl⟩
theorem en17:∀ args w,(Go.callFunc 17 args).run Tryz.prog w=.ok (.enter 17 args) w:=enters_fn Tryz.func17 (by kernel_rfl) rfl
theorem en20:∀ args w,(Go.callFunc 20 args).run Tryz.prog w=.ok (.enter 20 args) w:=enters_fn Tryz.func20 (by kernel_rfl) rfl
theorem en21:∀ args w,(Go.callFunc 21 args).run Tryz.prog w=.ok (.enter 21 args) w:=enters_fn Tryz.func21 (by kernel_rfl) rfl
theorem en22:∀ args w,(Go.callFunc 22 args).run Tryz.prog w=.ok (.enter 22 args) w:=enters_fn Tryz.func22 (by kernel_rfl) rfl
theorem en23:∀ args w,(Go.callFunc 23 args).run Tryz.prog w=.ok (.enter 23 args) w:=enters_fn Tryz.func23 (by kernel_rfl) rfl
theorem en24:∀ args w,(Go.callFunc 24 args).run Tryz.prog w=.ok (.enter 24 args) w:=enters_fn Tryz.func24 (by kernel_rfl) rfl
theorem en25:∀ args w,(Go.callFunc 25 args).run Tryz.prog w=.ok (.enter 25 args) w:=enters_fn Tryz.func25 (by kernel_rfl) rfl
theorem en26:∀ args w,(Go.callFunc 26 args).run Tryz.prog w=.ok (.enter 26 args) w:=enters_fn Tryz.func26 (by kernel_rfl) rfl
theorem en29:∀ args w,(Go.callFunc 29 args).run Tryz.prog w=.ok (.enter 29 args) w:=enters_fn Tryz.func29 (by kernel_rfl) rfl
theorem en33:∀ args w,(Go.callFunc 33 args).run Tryz.prog w=.ok (.enter 33 args) w:=enters_fn Tryz.func33 (by kernel_rfl) rfl
theorem en36:∀ args w,(Go.callFunc 36 args).run Tryz.prog w=.ok (.enter 36 args) w:=enters_fn Tryz.func36 (by kernel_rfl) rfl
theorem en37:∀ args w,(Go.callFunc 37 args).run Tryz.prog w=.ok (.enter 37 args) w:=enters_fn Tryz.func37 (by kernel_rfl) rfl
theorem en39:∀ args w,(Go.callFunc 39 args).run Tryz.prog w=.ok (.enter 39 args) w:=enters_fn Tryz.func39 (by kernel_rfl) rfl
theorem en40:∀ args w,(Go.callFunc 40 args).run Tryz.prog w=.ok (.enter 40 args) w:=enters_fn Tryz.func40 (by kernel_rfl) rfl
theorem en42:∀ args w,(Go.callFunc 42 args).run Tryz.prog w=.ok (.enter 42 args) w:=enters_fn Tryz.func42 (by kernel_rfl) rfl
theorem en44:∀ args w,(Go.callFunc 44 args).run Tryz.prog w=.ok (.enter 44 args) w:=enters_fn Tryz.func44 (by kernel_rfl) rfl
theorem en45:∀ args w,(Go.callFunc 45 args).run Tryz.prog w=.ok (.enter 45 args) w:=enters_fn Tryz.func45 (by kernel_rfl) rfl
theorem en47:∀ args w,(Go.callFunc 47 args).run Tryz.prog w=.ok (.enter 47 args) w:=enters_fn Tryz.func47 (by kernel_rfl) rfl
theorem en48:∀ args w,(Go.callFunc 48 args).run Tryz.prog w=.ok (.enter 48 args) w:=enters_fn Tryz.func48 (by kernel_rfl) rfl
theorem en49:∀ args w,(Go.callFunc 49 args).run Tryz.prog w=.ok (.enter 49 args) w:=enters_fn Tryz.func49 (by kernel_rfl) rfl
theorem en50:∀ args w,(Go.callFunc 50 args).run Tryz.prog w=.ok (.enter 50 args) w:=enters_fn Tryz.func50 (by kernel_rfl) rfl
theorem en51:∀ args w,(Go.callFunc 51 args).run Tryz.prog w=.ok (.enter 51 args) w:=enters_fn Tryz.func51 (by kernel_rfl) rfl
theorem en52:∀ args w,(Go.callFunc 52 args).run Tryz.prog w=.ok (.enter 52 args) w:=enters_fn Tryz.func52 (by kernel_rfl) rfl
theorem en54:∀ args w,(Go.callFunc 54 args).run Tryz.prog w=.ok (.enter 54 args) w:=enters_fn Tryz.func54 (by kernel_rfl) rfl
theorem en55:∀ args w,(Go.callFunc 55 args).run Tryz.prog w=.ok (.enter 55 args) w:=enters_fn Tryz.func55 (by kernel_rfl) rfl
theorem en56:∀ args w,(Go.callFunc 56 args).run Tryz.prog w=.ok (.enter 56 args) w:=enters_fn Tryz.func56 (by kernel_rfl) rfl
theorem en57:∀ args w,(Go.callFunc 57 args).run Tryz.prog w=.ok (.enter 57 args) w:=enters_fn Tryz.func57 (by kernel_rfl) rfl
theorem en58:∀ args w,(Go.callFunc 58 args).run Tryz.prog w=.ok (.enter 58 args) w:=enters_fn Tryz.func58 (by kernel_rfl) rfl
theorem en59:∀ args w,(Go.callFunc 59 args).run Tryz.prog w=.ok (.enter 59 args) w:=enters_fn Tryz.func59 (by kernel_rfl) rfl
theorem en60:∀ args w,(Go.callFunc 60 args).run Tryz.prog w=.ok (.enter 60 args) w:=enters_fn Tryz.func60 (by kernel_rfl) rfl
theorem en61:∀ args w,(Go.callFunc 61 args).run Tryz.prog w=.ok (.enter 61 args) w:=enters_fn Tryz.func61 (by kernel_rfl) rfl
theorem en65:∀ args w,(Go.callFunc 65 args).run Tryz.prog w=.ok (.enter 65 args) w:=enters_fn Tryz.func65 (by kernel_rfl) rfl
theorem en67:∀ args w,(Go.callFunc 67 args).run Tryz.prog w=.ok (.enter 67 args) w:=enters_fn Tryz.func67 (by kernel_rfl) rfl
theorem en68:∀ args w,(Go.callFunc 68 args).run Tryz.prog w=.ok (.enter 68 args) w:=enters_fn Tryz.func68 (by kernel_rfl) rfl
theorem en69:∀ args w,(Go.callFunc 69 args).run Tryz.prog w=.ok (.enter 69 args) w:=enters_fn Tryz.func69 (by kernel_rfl) rfl
theorem en70:∀ args w,(Go.callFunc 70 args).run Tryz.prog w=.ok (.enter 70 args) w:=enters_fn Tryz.func70 (by kernel_rfl) rfl
theorem en71:∀ args w,(Go.callFunc 71 args).run Tryz.prog w=.ok (.enter 71 args) w:=enters_fn Tryz.func71 (by kernel_rfl) rfl
theorem en72:∀ args w,(Go.callFunc 72 args).run Tryz.prog w=.ok (.enter 72 args) w:=enters_fn Tryz.func72 (by kernel_rfl) rfl
theorem en73:∀ args w,(Go.callFunc 73 args).run Tryz.prog w=.ok (.enter 73 args) w:=enters_fn Tryz.func73 (by kernel_rfl) rfl
theorem en74:∀ args w,(Go.callFunc 74 args).run Tryz.prog w=.ok (.enter 74 args) w:=enters_fn Tryz.func74 (by kernel_rfl) rfl
theorem en75:∀ args w,(Go.callFunc 75 args).run Tryz.prog w=.ok (.enter 75 args) w:=enters_fn Tryz.func75 (by kernel_rfl) rfl
theorem en76:∀ args w,(Go.callFunc 76 args).run Tryz.prog w=.ok (.enter 76 args) w:=enters_fn Tryz.func76 (by kernel_rfl) rfl
theorem en77:∀ args w,(Go.callFunc 77 args).run Tryz.prog w=.ok (.enter 77 args) w:=enters_fn Tryz.func77 (by kernel_rfl) rfl
theorem en78:∀ args w,(Go.callFunc 78 args).run Tryz.prog w=.ok (.enter 78 args) w:=enters_fn Tryz.func78 (by kernel_rfl) rfl
theorem en79:∀ args w,(Go.callFunc 79 args).run Tryz.prog w=.ok (.enter 79 args) w:=enters_fn Tryz.func79 (by kernel_rfl) rfl
theorem en82:∀ args w,(Go.callFunc 82 args).run Tryz.prog w=.ok (.enter 82 args) w:=enters_fn Tryz.func82 (by kernel_rfl) rfl
theorem en83:∀ args w,(Go.callFunc 83 args).run Tryz.prog w=.ok (.enter 83 args) w:=enters_fn Tryz.func83 (by kernel_rfl) rfl
theorem en84:∀ args w,(Go.callFunc 84 args).run Tryz.prog w=.ok (.enter 84 args) w:=enters_fn Tryz.func84 (by kernel_rfl) rfl
theorem en85:∀ args w,(Go.callFunc 85 args).run Tryz.prog w=.ok (.enter 85 args) w:=enters_fn Tryz.func85 (by kernel_rfl) rfl
theorem en86:∀ args w,(Go.callFunc 86 args).run Tryz.prog w=.ok (.enter 86 args) w:=enters_fn Tryz.func86 (by kernel_rfl) rfl
theorem en87:∀ args w,(Go.callFunc 87 args).run Tryz.prog w=.ok (.enter 87 args) w:=enters_fn Tryz.func87 (by kernel_rfl) rfl
theorem en88:∀ args w,(Go.callFunc 88 args).run Tryz.prog w=.ok (.enter 88 args) w:=enters_fn Tryz.func88 (by kernel_rfl) rfl
theorem en90:∀ args w,(Go.callFunc 90 args).run Tryz.prog w=.ok (.enter 90 args) w:=enters_fn Tryz.func90 (by kernel_rfl) rfl
theorem en92:∀ args w,(Go.callFunc 92 args).run Tryz.prog w=.ok (.enter 92 args) w:=enters_fn Tryz.func92 (by kernel_rfl) rfl
theorem en93:∀ args w,(Go.callFunc 93 args).run Tryz.prog w=.ok (.enter 93 args) w:=enters_fn Tryz.func93 (by kernel_rfl) rfl
theorem en94:∀ args w,(Go.callFunc 94 args).run Tryz.prog w=.ok (.enter 94 args) w:=enters_fn Tryz.func94 (by kernel_rfl) rfl
theorem en95:∀ args w,(Go.callFunc 95 args).run Tryz.prog w=.ok (.enter 95 args) w:=enters_fn Tryz.func95 (by kernel_rfl) rfl
theorem en96:∀ args w,(Go.callFunc 96 args).run Tryz.prog w=.ok (.enter 96 args) w:=enters_fn Tryz.func96 (by kernel_rfl) rfl
theorem en97:∀ args w,(Go.callFunc 97 args).run Tryz.prog w=.ok (.enter 97 args) w:=enters_fn Tryz.func97 (by kernel_rfl) rfl
theorem en98:∀ args w,(Go.callFunc 98 args).run Tryz.prog w=.ok (.enter 98 args) w:=enters_fn Tryz.func98 (by kernel_rfl) rfl
theorem en99:∀ args w,(Go.callFunc 99 args).run Tryz.prog w=.ok (.enter 99 args) w:=enters_fn Tryz.func99 (by kernel_rfl) rfl
theorem en100:∀ args w,(Go.callFunc 100 args).run Tryz.prog w=.ok (.enter 100 args) w:=enters_fn Tryz.func100 (by kernel_rfl) rfl
theorem en101:∀ args w,(Go.callFunc 101 args).run Tryz.prog w=.ok (.enter 101 args) w:=enters_fn Tryz.func101 (by kernel_rfl) rfl
theorem en102:∀ args w,(Go.callFunc 102 args).run Tryz.prog w=.ok (.enter 102 args) w:=enters_fn Tryz.func102 (by kernel_rfl) rfl
theorem en103:∀ args w,(Go.callFunc 103 args).run Tryz.prog w=.ok (.enter 103 args) w:=enters_fn Tryz.func103 (by kernel_rfl) rfl
theorem en104:∀ args w,(Go.callFunc 104 args).run Tryz.prog w=.ok (.enter 104 args) w:=enters_fn Tryz.func104 (by kernel_rfl) rfl
theorem en106:∀ args w,(Go.callFunc 106 args).run Tryz.prog w=.ok (.enter 106 args) w:=enters_fn Tryz.func106 (by kernel_rfl) rfl
theorem en109:∀ args w,(Go.callFunc 109 args).run Tryz.prog w=.ok (.enter 109 args) w:=enters_fn Tryz.func109 (by kernel_rfl) rfl
theorem en110:∀ args w,(Go.callFunc 110 args).run Tryz.prog w=.ok (.enter 110 args) w:=enters_fn Tryz.func110 (by kernel_rfl) rfl
theorem en111:∀ args w,(Go.callFunc 111 args).run Tryz.prog w=.ok (.enter 111 args) w:=enters_fn Tryz.func111 (by kernel_rfl) rfl
theorem en113:∀ args w,(Go.callFunc 113 args).run Tryz.prog w=.ok (.enter 113 args) w:=enters_fn Tryz.func113 (by kernel_rfl) rfl
theorem en114:∀ args w,(Go.callFunc 114 args).run Tryz.prog w=.ok (.enter 114 args) w:=enters_fn Tryz.func114 (by kernel_rfl) rfl
theorem en115:∀ args w,(Go.callFunc 115 args).run Tryz.prog w=.ok (.enter 115 args) w:=enters_fn Tryz.func115 (by kernel_rfl) rfl
theorem en118:∀ args w,(Go.callFunc 118 args).run Tryz.prog w=.ok (.enter 118 args) w:=enters_fn Tryz.func118 (by kernel_rfl) rfl
theorem en119:∀ args w,(Go.callFunc 119 args).run Tryz.prog w=.ok (.enter 119 args) w:=enters_fn Tryz.func119 (by kernel_rfl) rfl
theorem en120:∀ args w,(Go.callFunc 120 args).run Tryz.prog w=.ok (.enter 120 args) w:=enters_fn Tryz.func120 (by kernel_rfl) rfl
theorem en121:∀ args w,(Go.callFunc 121 args).run Tryz.prog w=.ok (.enter 121 args) w:=enters_fn Tryz.func121 (by kernel_rfl) rfl
theorem en122:∀ args w,(Go.callFunc 122 args).run Tryz.prog w=.ok (.enter 122 args) w:=enters_fn Tryz.func122 (by kernel_rfl) rfl
theorem en123:∀ args w,(Go.callFunc 123 args).run Tryz.prog w=.ok (.enter 123 args) w:=enters_fn Tryz.func123 (by kernel_rfl) rfl
theorem en125:∀ args w,(Go.callFunc 125 args).run Tryz.prog w=.ok (.enter 125 args) w:=enters_fn Tryz.func125 (by kernel_rfl) rfl
theorem en126:∀ args w,(Go.callFunc 126 args).run Tryz.prog w=.ok (.enter 126 args) w:=enters_fn Tryz.func126 (by kernel_rfl) rfl
theorem en127:∀ args w,(Go.callFunc 127 args).run Tryz.prog w=.ok (.enter 127 args) w:=enters_fn Tryz.func127 (by kernel_rfl) rfl
theorem en128:∀ args w,(Go.callFunc 128 args).run Tryz.prog w=.ok (.enter 128 args) w:=enters_fn Tryz.func128 (by kernel_rfl) rfl
theorem en129:∀ args w,(Go.callFunc 129 args).run Tryz.prog w=.ok (.enter 129 args) w:=enters_fn Tryz.func129 (by kernel_rfl) rfl
theorem en130:∀ args w,(Go.callFunc 130 args).run Tryz.prog w=.ok (.enter 130 args) w:=enters_fn Tryz.func130 (by kernel_rfl) rfl
theorem en131:∀ args w,(Go.callFunc 131 args).run Tryz.prog w=.ok (.enter 131 args) w:=enters_fn Tryz.func131 (by kernel_rfl) rfl
theorem en132:∀ args w,(Go.callFunc 132 args).run Tryz.prog w=.ok (.enter 132 args) w:=enters_fn Tryz.func132 (by kernel_rfl) rfl
theorem en133:∀ args w,(Go.callFunc 133 args).run Tryz.prog w=.ok (.enter 133 args) w:=enters_fn Tryz.func133 (by kernel_rfl) rfl
theorem en134:∀ args w,(Go.callFunc 134 args).run Tryz.prog w=.ok (.enter 134 args) w:=enters_fn Tryz.func134 (by kernel_rfl) rfl
theorem en135:∀ args w,(Go.callFunc 135 args).run Tryz.prog w=.ok (.enter 135 args) w:=enters_fn Tryz.func135 (by kernel_rfl) rfl
theorem en136:∀ args w,(Go.callFunc 136 args).run Tryz.prog w=.ok (.enter 136 args) w:=enters_fn Tryz.func136 (by kernel_rfl) rfl
theorem en137:∀ args w,(Go.callFunc 137 args).run Tryz.prog w=.ok (.enter 137 args) w:=enters_fn Tryz.func137 (by kernel_rfl) rfl
theorem en140:∀ args w,(Go.callFunc 140 args).run Tryz.prog w=.ok (.enter 140 args) w:=enters_fn Tryz.func140 (by kernel_rfl) rfl
theorem en141:∀ args w,(Go.callFunc 141 args).run Tryz.prog w=.ok (.enter 141 args) w:=enters_fn Tryz.func141 (by kernel_rfl) rfl
theorem en142:∀ args w,(Go.callFunc 142 args).run Tryz.prog w=.ok (.enter 142 args) w:=enters_fn Tryz.func142 (by kernel_rfl) rfl
theorem en143:∀ args w,(Go.callFunc 143 args).run Tryz.prog w=.ok (.enter 143 args) w:=enters_fn Tryz.func143 (by kernel_rfl) rfl
theorem en144:∀ args w,(Go.callFunc 144 args).run Tryz.prog w=.ok (.enter 144 args) w:=enters_fn Tryz.func144 (by kernel_rfl) rfl
theorem en145:∀ args w,(Go.callFunc 145 args).run Tryz.prog w=.ok (.enter 145 args) w:=enters_fn Tryz.func145 (by kernel_rfl) rfl
theorem en146:∀ args w,(Go.callFunc 146 args).run Tryz.prog w=.ok (.enter 146 args) w:=enters_fn Tryz.func146 (by kernel_rfl) rfl
theorem en147:∀ args w,(Go.callFunc 147 args).run Tryz.prog w=.ok (.enter 147 args) w:=enters_fn Tryz.func147 (by kernel_rfl) rfl
theorem en148:∀ args w,(Go.callFunc 148 args).run Tryz.prog w=.ok (.enter 148 args) w:=enters_fn Tryz.func148 (by kernel_rfl) rfl
theorem en149:∀ args w,(Go.callFunc 149 args).run Tryz.prog w=.ok (.enter 149 args) w:=enters_fn Tryz.func149 (by kernel_rfl) rfl
theorem en150:∀ args w,(Go.callFunc 150 args).run Tryz.prog w=.ok (.enter 150 args) w:=enters_fn Tryz.func150 (by kernel_rfl) rfl
theorem en151:∀ args w,(Go.callFunc 151 args).run Tryz.prog w=.ok (.enter 151 args) w:=enters_fn Tryz.func151 (by kernel_rfl) rfl
theorem en154:∀ args w,(Go.callFunc 154 args).run Tryz.prog w=.ok (.enter 154 args) w:=enters_fn Tryz.func154 (by kernel_rfl) rfl
theorem en155:∀ args w,(Go.callFunc 155 args).run Tryz.prog w=.ok (.enter 155 args) w:=enters_fn Tryz.func155 (by kernel_rfl) rfl
theorem en156:∀ args w,(Go.callFunc 156 args).run Tryz.prog w=.ok (.enter 156 args) w:=enters_fn Tryz.func156 (by kernel_rfl) rfl
theorem en157:∀ args w,(Go.callFunc 157 args).run Tryz.prog w=.ok (.enter 157 args) w:=enters_fn Tryz.func157 (by kernel_rfl) rfl
theorem en159:∀ args w,(Go.callFunc 159 args).run Tryz.prog w=.ok (.enter 159 args) w:=enters_fn Tryz.func159 (by kernel_rfl) rfl
theorem en160:∀ args w,(Go.callFunc 160 args).run Tryz.prog w=.ok (.enter 160 args) w:=enters_fn Tryz.func160 (by kernel_rfl) rfl
theorem en161:∀ args w,(Go.callFunc 161 args).run Tryz.prog w=.ok (.enter 161 args) w:=enters_fn Tryz.func161 (by kernel_rfl) rfl
theorem en162:∀ args w,(Go.callFunc 162 args).run Tryz.prog w=.ok (.enter 162 args) w:=enters_fn Tryz.func162 (by kernel_rfl) rfl
theorem en163:∀ args w,(Go.callFunc 163 args).run Tryz.prog w=.ok (.enter 163 args) w:=enters_fn Tryz.func163 (by kernel_rfl) rfl
theorem en164:∀ args w,(Go.callFunc 164 args).run Tryz.prog w=.ok (.enter 164 args) w:=enters_fn Tryz.func164 (by kernel_rfl) rfl
theorem en165:∀ args w,(Go.callFunc 165 args).run Tryz.prog w=.ok (.enter 165 args) w:=enters_fn Tryz.func165 (by kernel_rfl) rfl
theorem en166:∀ args w,(Go.callFunc 166 args).run Tryz.prog w=.ok (.enter 166 args) w:=enters_fn Tryz.func166 (by kernel_rfl) rfl
theorem en167:∀ args w,(Go.callFunc 167 args).run Tryz.prog w=.ok (.enter 167 args) w:=enters_fn Tryz.func167 (by kernel_rfl) rfl
theorem en170:∀ args w,(Go.callFunc 170 args).run Tryz.prog w=.ok (.enter 170 args) w:=enters_fn Tryz.func170 (by kernel_rfl) rfl
theorem en171:∀ args w,(Go.callFunc 171 args).run Tryz.prog w=.ok (.enter 171 args) w:=enters_fn Tryz.func171 (by kernel_rfl) rfl
theorem en172:∀ args w,(Go.callFunc 172 args).run Tryz.prog w=.ok (.enter 172 args) w:=enters_fn Tryz.func172 (by kernel_rfl) rfl
theorem en173:∀ args w,(Go.callFunc 173 args).run Tryz.prog w=.ok (.enter 173 args) w:=enters_fn Tryz.func173 (by kernel_rfl) rfl
theorem en174:∀ args w,(Go.callFunc 174 args).run Tryz.prog w=.ok (.enter 174 args) w:=enters_fn Tryz.func174 (by kernel_rfl) rfl
theorem en175:∀ args w,(Go.callFunc 175 args).run Tryz.prog w=.ok (.enter 175 args) w:=enters_fn Tryz.func175 (by kernel_rfl) rfl
theorem en178:∀ args w,(Go.callFunc 178 args).run Tryz.prog w=.ok (.enter 178 args) w:=enters_fn Tryz.func178 (by kernel_rfl) rfl
theorem en179:∀ args w,(Go.callFunc 179 args).run Tryz.prog w=.ok (.enter 179 args) w:=enters_fn Tryz.func179 (by kernel_rfl) rfl
theorem en181:∀ args w,(Go.callFunc 181 args).run Tryz.prog w=.ok (.enter 181 args) w:=enters_fn Tryz.func181 (by kernel_rfl) rfl
theorem en182:∀ args w,(Go.callFunc 182 args).run Tryz.prog w=.ok (.enter 182 args) w:=enters_fn Tryz.func182 (by kernel_rfl) rfl
theorem en185:∀ args w,(Go.callFunc 185 args).run Tryz.prog w=.ok (.enter 185 args) w:=enters_fn Tryz.func185 (by kernel_rfl) rfl
theorem en186:∀ args w,(Go.callFunc 186 args).run Tryz.prog w=.ok (.enter 186 args) w:=enters_fn Tryz.func186 (by kernel_rfl) rfl
theorem en199:∀ args w,(Go.callFunc 199 args).run Tryz.prog w=.ok (.enter 199 args) w:=enters_fn Tryz.func199 (by kernel_rfl) rfl
theorem mixedOk:Tryz.prog.follows .mixedOrders=true:=by kernel_rfl
end Go.Proofs.YtnifmbbpfdghmaaGreatDoor
