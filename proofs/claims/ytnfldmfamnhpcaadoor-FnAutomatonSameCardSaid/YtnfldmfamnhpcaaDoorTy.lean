/-
  What the program's types are, for the abstract machine. No conditions.
-/
import Derived.Test.YtnfldmfamnhpcaaDoorProg
import Derived.Test.YtnfldmfamnhpcaaDoorVm15
namespace Go.Proofs.YtnfldmfamnhpcaaDoor.Vm
open Go
set_option maxRecDepth 100000
@[simp] theorem ty2:τ Tryd.prog 2 = some ⟨1,8,false,[.int .i64 0],.int .i64⟩:=by kernel_rfl
@[simp] theorem un2:Tryd.prog.underlying 2 = some (.int .i64):=by kernel_rfl
@[simp] theorem ty3:τ Tryd.prog 3 = some ⟨1,8,false,[.int .i64 0],.int .i64⟩:=by kernel_rfl
@[simp] theorem un3:Tryd.prog.underlying 3 = some (.int .i64):=by kernel_rfl
@[simp] theorem ty4:τ Tryd.prog 4 = some ⟨1,1,false,[.bool false],.bool⟩:=by kernel_rfl
@[simp] theorem un4:Tryd.prog.underlying 4 = some (.bool):=by kernel_rfl
@[simp] theorem ty5:τ Tryd.prog 5 = some ⟨1,1,false,[.int .u8 0],.int .u8⟩:=by kernel_rfl
@[simp] theorem un5:Tryd.prog.underlying 5 = some (.int .u8):=by kernel_rfl
@[simp] theorem ty6:τ Tryd.prog 6 = some ⟨1,1,false,[.int .u8 0],.int .u8⟩:=by kernel_rfl
@[simp] theorem un6:Tryd.prog.underlying 6 = some (.int .u8):=by kernel_rfl
@[simp] theorem ty7:τ Tryd.prog 7 = some ⟨4,24,true,[.int .i64 0,.int .i64 0,.bool false,.int .u8 0],.struct #[{ name := "x",type:=2,offset:=0,embedded:=false,tag := "",pkgPath := "runtime",byteOffset:=0 },{ name := "y",type:=3,offset:=1,embedded:=false,tag := "",pkgPath := "runtime",byteOffset:=8 },{ name := "signed",type:=4,offset:=2,embedded:=false,tag := "",pkgPath := "runtime",byteOffset:=16 },{ name := "code",type:=6,offset:=3,embedded:=false,tag := "",pkgPath := "runtime",byteOffset:=17 }]⟩:=by kernel_rfl
@[simp] theorem un7:Tryd.prog.underlying 7 = some (.struct #[{ name := "x",type:=2,offset:=0,embedded:=false,tag := "",pkgPath := "runtime",byteOffset:=0 },{ name := "y",type:=3,offset:=1,embedded:=false,tag := "",pkgPath := "runtime",byteOffset:=8 },{ name := "signed",type:=4,offset:=2,embedded:=false,tag := "",pkgPath := "runtime",byteOffset:=16 },{ name := "code",type:=6,offset:=3,embedded:=false,tag := "",pkgPath := "runtime",byteOffset:=17 }]):=by kernel_rfl
@[simp] theorem ty8:τ Tryd.prog 8 = some ⟨4,24,true,[.int .i64 0,.int .i64 0,.bool false,.int .u8 0],.struct #[{ name := "x",type:=2,offset:=0,embedded:=false,tag := "",pkgPath := "runtime",byteOffset:=0 },{ name := "y",type:=3,offset:=1,embedded:=false,tag := "",pkgPath := "runtime",byteOffset:=8 },{ name := "signed",type:=4,offset:=2,embedded:=false,tag := "",pkgPath := "runtime",byteOffset:=16 },{ name := "code",type:=6,offset:=3,embedded:=false,tag := "",pkgPath := "runtime",byteOffset:=17 }]⟩:=by kernel_rfl
@[simp] theorem un8:Tryd.prog.underlying 8 = some (.struct #[{ name := "x",type:=2,offset:=0,embedded:=false,tag := "",pkgPath := "runtime",byteOffset:=0 },{ name := "y",type:=3,offset:=1,embedded:=false,tag := "",pkgPath := "runtime",byteOffset:=8 },{ name := "signed",type:=4,offset:=2,embedded:=false,tag := "",pkgPath := "runtime",byteOffset:=16 },{ name := "code",type:=6,offset:=3,embedded:=false,tag := "",pkgPath := "runtime",byteOffset:=17 }]):=by kernel_rfl
@[simp] theorem ty9:τ Tryd.prog 9 = some ⟨1,16,false,[.str []],.string⟩:=by kernel_rfl
@[simp] theorem un9:Tryd.prog.underlying 9 = some (.string):=by kernel_rfl
@[simp] theorem ty10:τ Tryd.prog 10 = some ⟨1,16,false,[.str []],.string⟩:=by kernel_rfl
@[simp] theorem un10:Tryd.prog.underlying 10 = some (.string):=by kernel_rfl
@[simp] theorem ty11:τ Tryd.prog 11 = some ⟨1,16,false,[.str []],.string⟩:=by kernel_rfl
@[simp] theorem un11:Tryd.prog.underlying 11 = some (.string):=by kernel_rfl
@[simp] theorem ty12:τ Tryd.prog 12 = some ⟨1,8,false,[.int .u64 0],.int .u64⟩:=by kernel_rfl
@[simp] theorem un12:Tryd.prog.underlying 12 = some (.int .u64):=by kernel_rfl
@[simp] theorem ty13:τ Tryd.prog 13 = some ⟨2,24,true,[.str [],.int .u64 0],.struct #[{ name := "msg",type:=9,offset:=0,embedded:=false,tag := "",pkgPath := "runtime",byteOffset:=0 },{ name := "addr",type:=12,offset:=1,embedded:=false,tag := "",pkgPath := "runtime",byteOffset:=16 }]⟩:=by kernel_rfl
@[simp] theorem un13:Tryd.prog.underlying 13 = some (.struct #[{ name := "msg",type:=9,offset:=0,embedded:=false,tag := "",pkgPath := "runtime",byteOffset:=0 },{ name := "addr",type:=12,offset:=1,embedded:=false,tag := "",pkgPath := "runtime",byteOffset:=16 }]):=by kernel_rfl
@[simp] theorem ty14:τ Tryd.prog 14 = some ⟨2,24,true,[.str [],.int .u64 0],.struct #[{ name := "msg",type:=9,offset:=0,embedded:=false,tag := "",pkgPath := "runtime",byteOffset:=0 },{ name := "addr",type:=12,offset:=1,embedded:=false,tag := "",pkgPath := "runtime",byteOffset:=16 }]⟩:=by kernel_rfl
@[simp] theorem un14:Tryd.prog.underlying 14 = some (.struct #[{ name := "msg",type:=9,offset:=0,embedded:=false,tag := "",pkgPath := "runtime",byteOffset:=0 },{ name := "addr",type:=12,offset:=1,embedded:=false,tag := "",pkgPath := "runtime",byteOffset:=16 }]):=by kernel_rfl
@[simp] theorem ty15:τ Tryd.prog 15 = some ⟨1,8,false,[.nilp],.pointer 144⟩:=by kernel_rfl
@[simp] theorem un15:Tryd.prog.underlying 15 = some (.pointer 144):=by kernel_rfl
@[simp] theorem ty16:τ Tryd.prog 16 = some ⟨1,8,false,[.nilp],.pointer 147⟩:=by kernel_rfl
@[simp] theorem un16:Tryd.prog.underlying 16 = some (.pointer 147):=by kernel_rfl
@[simp] theorem ty17:τ Tryd.prog 17 = some ⟨1,8,false,[.nilp],.pointer 155⟩:=by kernel_rfl
@[simp] theorem un17:Tryd.prog.underlying 17 = some (.pointer 155):=by kernel_rfl
@[simp] theorem ty18:τ Tryd.prog 18 = some ⟨1,8,true,[.nilp],.struct #[{ name := "typ",type:=17,offset:=0,embedded:=false,tag := "",pkgPath := "internal/runtime/maps",byteOffset:=0 }]⟩:=by kernel_rfl
@[simp] theorem un18:Tryd.prog.underlying 18 = some (.struct #[{ name := "typ",type:=17,offset:=0,embedded:=false,tag := "",pkgPath := "internal/runtime/maps",byteOffset:=0 }]):=by kernel_rfl
@[simp] theorem ty19:τ Tryd.prog 19 = some ⟨1,8,true,[.nilp],.struct #[{ name := "typ",type:=17,offset:=0,embedded:=false,tag := "",pkgPath := "internal/runtime/maps",byteOffset:=0 }]⟩:=by kernel_rfl
@[simp] theorem un19:Tryd.prog.underlying 19 = some (.struct #[{ name := "typ",type:=17,offset:=0,embedded:=false,tag := "",pkgPath := "internal/runtime/maps",byteOffset:=0 }]):=by kernel_rfl
@[simp] theorem ty22:τ Tryd.prog 22 = some ⟨1,24,false,[.nil],.slice 3⟩:=by kernel_rfl
@[simp] theorem un22:Tryd.prog.underlying 22 = some (.slice 3):=by kernel_rfl
@[simp] theorem ty23:τ Tryd.prog 23 = some ⟨1,24,true,[.nil],.struct #[{ name := "Ranks",type:=22,offset:=0,embedded:=false,tag := "",pkgPath := "",byteOffset:=0 }]⟩:=by kernel_rfl
@[simp] theorem un23:Tryd.prog.underlying 23 = some (.struct #[{ name := "Ranks",type:=22,offset:=0,embedded:=false,tag := "",pkgPath := "",byteOffset:=0 }]):=by kernel_rfl
@[simp] theorem ty24:τ Tryd.prog 24 = some ⟨1,24,true,[.nil],.struct #[{ name := "Ranks",type:=22,offset:=0,embedded:=false,tag := "",pkgPath := "",byteOffset:=0 }]⟩:=by kernel_rfl
@[simp] theorem un24:Tryd.prog.underlying 24 = some (.struct #[{ name := "Ranks",type:=22,offset:=0,embedded:=false,tag := "",pkgPath := "",byteOffset:=0 }]):=by kernel_rfl
@[simp] theorem ty27:τ Tryd.prog 27 = some ⟨1,24,true,[.nil],.struct #[{ name := "Ranks",type:=22,offset:=0,embedded:=false,tag := "",pkgPath := "",byteOffset:=0 }]⟩:=by kernel_rfl
@[simp] theorem un27:Tryd.prog.underlying 27 = some (.struct #[{ name := "Ranks",type:=22,offset:=0,embedded:=false,tag := "",pkgPath := "",byteOffset:=0 }]):=by kernel_rfl
@[simp] theorem ty31:τ Tryd.prog 31 = some ⟨1,24,false,[.nil],.slice 4⟩:=by kernel_rfl
@[simp] theorem un31:Tryd.prog.underlying 31 = some (.slice 4):=by kernel_rfl
@[simp] theorem ty32:τ Tryd.prog 32 = some ⟨1,24,false,[.nil],.slice 80⟩:=by kernel_rfl
@[simp] theorem un32:Tryd.prog.underlying 32 = some (.slice 80):=by kernel_rfl
@[simp] theorem ty37:τ Tryd.prog 37 = some ⟨1,24,false,[.nil],.slice 65⟩:=by kernel_rfl
@[simp] theorem un37:Tryd.prog.underlying 37 = some (.slice 65):=by kernel_rfl
@[simp] theorem ty39:τ Tryd.prog 39 = some ⟨3,72,true,[.nil,.nil,.nil],.struct #[{ name := "Initial",type:=22,offset:=0,embedded:=false,tag := "",pkgPath := "",byteOffset:=0 },{ name := "Accepting",type:=31,offset:=1,embedded:=false,tag := "",pkgPath := "",byteOffset:=24 },{ name := "Edges",type:=37,offset:=2,embedded:=false,tag := "",pkgPath := "",byteOffset:=48 }]⟩:=by kernel_rfl
@[simp] theorem un39:Tryd.prog.underlying 39 = some (.struct #[{ name := "Initial",type:=22,offset:=0,embedded:=false,tag := "",pkgPath := "",byteOffset:=0 },{ name := "Accepting",type:=31,offset:=1,embedded:=false,tag := "",pkgPath := "",byteOffset:=24 },{ name := "Edges",type:=37,offset:=2,embedded:=false,tag := "",pkgPath := "",byteOffset:=48 }]):=by kernel_rfl
@[simp] theorem ty43:τ Tryd.prog 43 = some ⟨1,24,false,[.nil],.slice 5⟩:=by kernel_rfl
@[simp] theorem un43:Tryd.prog.underlying 43 = some (.slice 5):=by kernel_rfl
@[simp] theorem ty51:τ Tryd.prog 51 = some ⟨1,8,false,[.nilp],.pointer 53⟩:=by kernel_rfl
@[simp] theorem un51:Tryd.prog.underlying 51 = some (.pointer 53):=by kernel_rfl
@[simp] theorem ty53:τ Tryd.prog 53 = some ⟨2,32,true,[.nilp,.nil],.struct #[{ name := "addr",type:=51,offset:=0,embedded:=false,tag := "",pkgPath := "strings",byteOffset:=0 },{ name := "buf",type:=43,offset:=1,embedded:=false,tag := "",pkgPath := "strings",byteOffset:=8 }]⟩:=by kernel_rfl
@[simp] theorem un53:Tryd.prog.underlying 53 = some (.struct #[{ name := "addr",type:=51,offset:=0,embedded:=false,tag := "",pkgPath := "strings",byteOffset:=0 },{ name := "buf",type:=43,offset:=1,embedded:=false,tag := "",pkgPath := "strings",byteOffset:=8 }]):=by kernel_rfl
@[simp] theorem ty64:τ Tryd.prog 64 = some ⟨4,32,true,[.int .i64 0,.int .i64 0,.int .i64 0,.int .i64 0],.struct #[{ name := "From",type:=3,offset:=0,embedded:=false,tag := "",pkgPath := "",byteOffset:=0 },{ name := "Care",type:=3,offset:=1,embedded:=false,tag := "",pkgPath := "",byteOffset:=8 },{ name := "Value",type:=3,offset:=2,embedded:=false,tag := "",pkgPath := "",byteOffset:=16 },{ name := "To",type:=3,offset:=3,embedded:=false,tag := "",pkgPath := "",byteOffset:=24 }]⟩:=by kernel_rfl
@[simp] theorem un64:Tryd.prog.underlying 64 = some (.struct #[{ name := "From",type:=3,offset:=0,embedded:=false,tag := "",pkgPath := "",byteOffset:=0 },{ name := "Care",type:=3,offset:=1,embedded:=false,tag := "",pkgPath := "",byteOffset:=8 },{ name := "Value",type:=3,offset:=2,embedded:=false,tag := "",pkgPath := "",byteOffset:=16 },{ name := "To",type:=3,offset:=3,embedded:=false,tag := "",pkgPath := "",byteOffset:=24 }]):=by kernel_rfl
@[simp] theorem ty65:τ Tryd.prog 65 = some ⟨4,32,true,[.int .i64 0,.int .i64 0,.int .i64 0,.int .i64 0],.struct #[{ name := "From",type:=3,offset:=0,embedded:=false,tag := "",pkgPath := "",byteOffset:=0 },{ name := "Care",type:=3,offset:=1,embedded:=false,tag := "",pkgPath := "",byteOffset:=8 },{ name := "Value",type:=3,offset:=2,embedded:=false,tag := "",pkgPath := "",byteOffset:=16 },{ name := "To",type:=3,offset:=3,embedded:=false,tag := "",pkgPath := "",byteOffset:=24 }]⟩:=by kernel_rfl
@[simp] theorem un65:Tryd.prog.underlying 65 = some (.struct #[{ name := "From",type:=3,offset:=0,embedded:=false,tag := "",pkgPath := "",byteOffset:=0 },{ name := "Care",type:=3,offset:=1,embedded:=false,tag := "",pkgPath := "",byteOffset:=8 },{ name := "Value",type:=3,offset:=2,embedded:=false,tag := "",pkgPath := "",byteOffset:=16 },{ name := "To",type:=3,offset:=3,embedded:=false,tag := "",pkgPath := "",byteOffset:=24 }]):=by kernel_rfl
@[simp] theorem ty72:τ Tryd.prog 72 = some ⟨1,8,false,[.nilp],.pointer 87⟩:=by kernel_rfl
@[simp] theorem un72:Tryd.prog.underlying 72 = some (.pointer 87):=by kernel_rfl
@[simp] theorem ty77:τ Tryd.prog 77 = some ⟨1,8,false,[.nilp],.pointer 5⟩:=by kernel_rfl
@[simp] theorem un77:Tryd.prog.underlying 77 = some (.pointer 5):=by kernel_rfl
@[simp] theorem ty80:τ Tryd.prog 80 = some ⟨4,32,true,[.int .i64 0,.int .i64 0,.int .i64 0,.int .i64 0],.struct #[{ name := "From",type:=3,offset:=0,embedded:=false,tag := "",pkgPath := "",byteOffset:=0 },{ name := "Care",type:=3,offset:=1,embedded:=false,tag := "",pkgPath := "",byteOffset:=8 },{ name := "Value",type:=3,offset:=2,embedded:=false,tag := "",pkgPath := "",byteOffset:=16 },{ name := "To",type:=3,offset:=3,embedded:=false,tag := "",pkgPath := "",byteOffset:=24 }]⟩:=by kernel_rfl
@[simp] theorem un80:Tryd.prog.underlying 80 = some (.struct #[{ name := "From",type:=3,offset:=0,embedded:=false,tag := "",pkgPath := "",byteOffset:=0 },{ name := "Care",type:=3,offset:=1,embedded:=false,tag := "",pkgPath := "",byteOffset:=8 },{ name := "Value",type:=3,offset:=2,embedded:=false,tag := "",pkgPath := "",byteOffset:=16 },{ name := "To",type:=3,offset:=3,embedded:=false,tag := "",pkgPath := "",byteOffset:=24 }]):=by kernel_rfl
@[simp] theorem ty83:τ Tryd.prog 83 = some ⟨1,24,false,[.nil],.slice 9⟩:=by kernel_rfl
@[simp] theorem un83:Tryd.prog.underlying 83 = some (.slice 9):=by kernel_rfl
@[simp] theorem ty87:τ Tryd.prog 87 = some ⟨2,32,true,[.nil,.int .i64 0],.struct #[{ name := "b",type:=43,offset:=0,embedded:=false,tag := "",pkgPath := "loop.example/ltlcheck/spec",byteOffset:=0 },{ name := "p",type:=3,offset:=1,embedded:=false,tag := "",pkgPath := "loop.example/ltlcheck/spec",byteOffset:=24 }]⟩:=by kernel_rfl
@[simp] theorem un87:Tryd.prog.underlying 87 = some (.struct #[{ name := "b",type:=43,offset:=0,embedded:=false,tag := "",pkgPath := "loop.example/ltlcheck/spec",byteOffset:=0 },{ name := "p",type:=3,offset:=1,embedded:=false,tag := "",pkgPath := "loop.example/ltlcheck/spec",byteOffset:=24 }]):=by kernel_rfl
@[simp] theorem ty90:τ Tryd.prog 90 = some ⟨1,24,false,[.nil],.slice 92⟩:=by kernel_rfl
@[simp] theorem un90:Tryd.prog.underlying 90 = some (.slice 92):=by kernel_rfl
@[simp] theorem ty91:τ Tryd.prog 91 = some ⟨3,40,true,[.int .i64 0,.int .i64 0,.nil],.struct #[{ name := "Kind",type:=3,offset:=0,embedded:=false,tag := "",pkgPath := "",byteOffset:=0 },{ name := "Atom",type:=3,offset:=1,embedded:=false,tag := "",pkgPath := "",byteOffset:=8 },{ name := "Kids",type:=90,offset:=2,embedded:=false,tag := "",pkgPath := "",byteOffset:=16 }]⟩:=by kernel_rfl
@[simp] theorem un91:Tryd.prog.underlying 91 = some (.struct #[{ name := "Kind",type:=3,offset:=0,embedded:=false,tag := "",pkgPath := "",byteOffset:=0 },{ name := "Atom",type:=3,offset:=1,embedded:=false,tag := "",pkgPath := "",byteOffset:=8 },{ name := "Kids",type:=90,offset:=2,embedded:=false,tag := "",pkgPath := "",byteOffset:=16 }]):=by kernel_rfl
@[simp] theorem ty92:τ Tryd.prog 92 = some ⟨3,40,true,[.int .i64 0,.int .i64 0,.nil],.struct #[{ name := "Kind",type:=3,offset:=0,embedded:=false,tag := "",pkgPath := "",byteOffset:=0 },{ name := "Atom",type:=3,offset:=1,embedded:=false,tag := "",pkgPath := "",byteOffset:=8 },{ name := "Kids",type:=90,offset:=2,embedded:=false,tag := "",pkgPath := "",byteOffset:=16 }]⟩:=by kernel_rfl
@[simp] theorem un92:Tryd.prog.underlying 92 = some (.struct #[{ name := "Kind",type:=3,offset:=0,embedded:=false,tag := "",pkgPath := "",byteOffset:=0 },{ name := "Atom",type:=3,offset:=1,embedded:=false,tag := "",pkgPath := "",byteOffset:=8 },{ name := "Kids",type:=90,offset:=2,embedded:=false,tag := "",pkgPath := "",byteOffset:=16 }]):=by kernel_rfl
@[simp] theorem ty104:τ Tryd.prog 104 = some ⟨1,8,false,[.int .u64 0],.int .u64⟩:=by kernel_rfl
@[simp] theorem un104:Tryd.prog.underlying 104 = some (.int .u64):=by kernel_rfl
@[simp] theorem ty106:τ Tryd.prog 106 = some ⟨1,24,false,[.nil],.slice 22⟩:=by kernel_rfl
@[simp] theorem un106:Tryd.prog.underlying 106 = some (.slice 22):=by kernel_rfl
@[simp] theorem ty118:τ Tryd.prog 118 = some ⟨1,8,false,[.int .u64 0],.int .u64⟩:=by kernel_rfl
@[simp] theorem un118:Tryd.prog.underlying 118 = some (.int .u64):=by kernel_rfl
@[simp] theorem ty133:τ Tryd.prog 133 = some ⟨1,4,false,[.int .u32 0],.int .u32⟩:=by kernel_rfl
@[simp] theorem un133:Tryd.prog.underlying 133 = some (.int .u32):=by kernel_rfl
@[simp] theorem ty143:τ Tryd.prog 143 = some ⟨4,40,true,[.nilp,.nilp,.nilp,.str []],.struct #[{ name := "_interface",type:=17,offset:=0,embedded:=false,tag := "",pkgPath := "runtime",byteOffset:=0 },{ name := "concrete",type:=17,offset:=1,embedded:=false,tag := "",pkgPath := "runtime",byteOffset:=8 },{ name := "asserted",type:=17,offset:=2,embedded:=false,tag := "",pkgPath := "runtime",byteOffset:=16 },{ name := "missingMethod",type:=9,offset:=3,embedded:=false,tag := "",pkgPath := "runtime",byteOffset:=24 }]⟩:=by kernel_rfl
@[simp] theorem un143:Tryd.prog.underlying 143 = some (.struct #[{ name := "_interface",type:=17,offset:=0,embedded:=false,tag := "",pkgPath := "runtime",byteOffset:=0 },{ name := "concrete",type:=17,offset:=1,embedded:=false,tag := "",pkgPath := "runtime",byteOffset:=8 },{ name := "asserted",type:=17,offset:=2,embedded:=false,tag := "",pkgPath := "runtime",byteOffset:=16 },{ name := "missingMethod",type:=9,offset:=3,embedded:=false,tag := "",pkgPath := "runtime",byteOffset:=24 }]):=by kernel_rfl
@[simp] theorem ty144:τ Tryd.prog 144 = some ⟨4,40,true,[.nilp,.nilp,.nilp,.str []],.struct #[{ name := "_interface",type:=17,offset:=0,embedded:=false,tag := "",pkgPath := "runtime",byteOffset:=0 },{ name := "concrete",type:=17,offset:=1,embedded:=false,tag := "",pkgPath := "runtime",byteOffset:=8 },{ name := "asserted",type:=17,offset:=2,embedded:=false,tag := "",pkgPath := "runtime",byteOffset:=16 },{ name := "missingMethod",type:=9,offset:=3,embedded:=false,tag := "",pkgPath := "runtime",byteOffset:=24 }]⟩:=by kernel_rfl
@[simp] theorem un144:Tryd.prog.underlying 144 = some (.struct #[{ name := "_interface",type:=17,offset:=0,embedded:=false,tag := "",pkgPath := "runtime",byteOffset:=0 },{ name := "concrete",type:=17,offset:=1,embedded:=false,tag := "",pkgPath := "runtime",byteOffset:=8 },{ name := "asserted",type:=17,offset:=2,embedded:=false,tag := "",pkgPath := "runtime",byteOffset:=16 },{ name := "missingMethod",type:=9,offset:=3,embedded:=false,tag := "",pkgPath := "runtime",byteOffset:=24 }]):=by kernel_rfl
@[simp] theorem ty147:τ Tryd.prog 147 = some ⟨0,0,true,[],.struct #[{ name := "_",type:=145,offset:=0,embedded:=false,tag := "",pkgPath := "runtime",byteOffset:=0 }]⟩:=by kernel_rfl
@[simp] theorem un147:Tryd.prog.underlying 147 = some (.struct #[{ name := "_",type:=145,offset:=0,embedded:=false,tag := "",pkgPath := "runtime",byteOffset:=0 }]):=by kernel_rfl
@[simp] theorem ty149:τ Tryd.prog 149 = some ⟨1,1,false,[.int .u8 0],.int .u8⟩:=by kernel_rfl
@[simp] theorem un149:Tryd.prog.underlying 149 = some (.int .u8):=by kernel_rfl
@[simp] theorem ty150:τ Tryd.prog 150 = some ⟨1,1,false,[.int .u8 0],.int .u8⟩:=by kernel_rfl
@[simp] theorem un150:Tryd.prog.underlying 150 = some (.int .u8):=by kernel_rfl
@[simp] theorem ty152:τ Tryd.prog 152 = some ⟨1,4,false,[.int .i32 0],.int .i32⟩:=by kernel_rfl
@[simp] theorem un152:Tryd.prog.underlying 152 = some (.int .i32):=by kernel_rfl
@[simp] theorem ty153:τ Tryd.prog 153 = some ⟨1,4,false,[.int .i32 0],.int .i32⟩:=by kernel_rfl
@[simp] theorem un153:Tryd.prog.underlying 153 = some (.int .i32):=by kernel_rfl
@[simp] theorem ty155:τ Tryd.prog 155 = some ⟨11,48,true,[.int .u64 0,.int .u64 0,.int .u32 0,.int .u8 0,.int .u8 0,.int .u8 0,.int .u8 0,.any,.nilp,.int .i32 0,.int .i32 0],.struct #[{ name := "Size_",type:=12,offset:=0,embedded:=false,tag := "",pkgPath := "",byteOffset:=0 },{ name := "PtrBytes",type:=12,offset:=1,embedded:=false,tag := "",pkgPath := "",byteOffset:=8 },{ name := "Hash",type:=133,offset:=2,embedded:=false,tag := "",pkgPath := "",byteOffset:=16 },{ name := "TFlag",type:=149,offset:=3,embedded:=false,tag := "",pkgPath := "",byteOffset:=20 },{ name := "Align_",type:=5,offset:=4,embedded:=false,tag := "",pkgPath := "",byteOffset:=21 },{ name := "FieldAlign_",type:=5,offset:=5,embedded:=false,tag := "",pkgPath := "",byteOffset:=22 },{ name := "Kind_",type:=150,offset:=6,embedded:=false,tag := "",pkgPath := "",byteOffset:=23 },{ name := "Equal",type:=151,offset:=7,embedded:=false,tag := "",pkgPath := "",byteOffset:=24 },{ name := "GCData",type:=77,offset:=8,embedded:=false,tag := "",pkgPath := "",byteOffset:=32 },{ name := "Str",type:=152,offset:=9,embedded:=false,tag := "",pkgPath := "",byteOffset:=40 },{ name := "PtrToThis",type:=153,offset:=10,embedded:=false,tag := "",pkgPath := "",byteOffset:=44 }]⟩:=by kernel_rfl
@[simp] theorem un155:Tryd.prog.underlying 155 = some (.struct #[{ name := "Size_",type:=12,offset:=0,embedded:=false,tag := "",pkgPath := "",byteOffset:=0 },{ name := "PtrBytes",type:=12,offset:=1,embedded:=false,tag := "",pkgPath := "",byteOffset:=8 },{ name := "Hash",type:=133,offset:=2,embedded:=false,tag := "",pkgPath := "",byteOffset:=16 },{ name := "TFlag",type:=149,offset:=3,embedded:=false,tag := "",pkgPath := "",byteOffset:=20 },{ name := "Align_",type:=5,offset:=4,embedded:=false,tag := "",pkgPath := "",byteOffset:=21 },{ name := "FieldAlign_",type:=5,offset:=5,embedded:=false,tag := "",pkgPath := "",byteOffset:=22 },{ name := "Kind_",type:=150,offset:=6,embedded:=false,tag := "",pkgPath := "",byteOffset:=23 },{ name := "Equal",type:=151,offset:=7,embedded:=false,tag := "",pkgPath := "",byteOffset:=24 },{ name := "GCData",type:=77,offset:=8,embedded:=false,tag := "",pkgPath := "",byteOffset:=32 },{ name := "Str",type:=152,offset:=9,embedded:=false,tag := "",pkgPath := "",byteOffset:=40 },{ name := "PtrToThis",type:=153,offset:=10,embedded:=false,tag := "",pkgPath := "",byteOffset:=44 }]):=by kernel_rfl
end Go.Proofs.YtnfldmfamnhpcaaDoor.Vm
