/-
  What the program's types are, for the abstract machine. No conditions.
-/
import Derived.Test.YtiilmjojffjhlaaDoorProg
import Derived.Test.YtiilmjojffjhlaaDoorVm15
namespace Go.Proofs.YtiilmjojffjhlaaDoor.Vm
open Go
set_option maxRecDepth 100000
@[simp] theorem ty2:τ Tryd.prog 2 = some ⟨1,8,false,[.int .i64 0],.int .i64⟩:=by kernel_rfl
@[simp] theorem un2:Tryd.prog.underlying 2 = some (.int .i64):=by kernel_rfl
@[simp] theorem ty3:τ Tryd.prog 3 = some ⟨1,8,false,[.int .i64 0],.int .i64⟩:=by kernel_rfl
@[simp] theorem un3:Tryd.prog.underlying 3 = some (.int .i64):=by kernel_rfl
@[simp] theorem ty4:τ Tryd.prog 4 = some ⟨1,1,false,[.bool false],.bool⟩:=by kernel_rfl
@[simp] theorem un4:Tryd.prog.underlying 4 = some (.bool):=by kernel_rfl
@[simp] theorem ty5:τ Tryd.prog 5 = some ⟨1,1,false,[.int .u8 0],.int .u8⟩:=by kernel_rfl
@[simp] theorem un5:Tryd.prog.underlying 5 = some (.int .u8):=by kernel_rfl
@[simp] theorem ty6:τ Tryd.prog 6 = some ⟨1,1,false,[.int .u8 0],.int .u8⟩:=by kernel_rfl
@[simp] theorem un6:Tryd.prog.underlying 6 = some (.int .u8):=by kernel_rfl
@[simp] theorem ty7:τ Tryd.prog 7 = some ⟨4,24,true,[.int .i64 0,.int .i64 0,.bool false,.int .u8 0],.struct #[{ name := "x",type:=2,offset:=0,embedded:=false,tag := "",pkgPath := "runtime",byteOffset:=0 },{ name := "y",type:=3,offset:=1,embedded:=false,tag := "",pkgPath := "runtime",byteOffset:=8 },{ name := "signed",type:=4,offset:=2,embedded:=false,tag := "",pkgPath := "runtime",byteOffset:=16 },{ name := "code",type:=6,offset:=3,embedded:=false,tag := "",pkgPath := "runtime",byteOffset:=17 }]⟩:=by kernel_rfl
@[simp] theorem un7:Tryd.prog.underlying 7 = some (.struct #[{ name := "x",type:=2,offset:=0,embedded:=false,tag := "",pkgPath := "runtime",byteOffset:=0 },{ name := "y",type:=3,offset:=1,embedded:=false,tag := "",pkgPath := "runtime",byteOffset:=8 },{ name := "signed",type:=4,offset:=2,embedded:=false,tag := "",pkgPath := "runtime",byteOffset:=16 },{ name := "code",type:=6,offset:=3,embedded:=false,tag := "",pkgPath := "runtime",byteOffset:=17 }]):=by kernel_rfl
@[simp] theorem ty8:τ Tryd.prog 8 = some ⟨4,24,true,[.int .i64 0,.int .i64 0,.bool false,.int .u8 0],.struct #[{ name := "x",type:=2,offset:=0,embedded:=false,tag := "",pkgPath := "runtime",byteOffset:=0 },{ name := "y",type:=3,offset:=1,embedded:=false,tag := "",pkgPath := "runtime",byteOffset:=8 },{ name := "signed",type:=4,offset:=2,embedded:=false,tag := "",pkgPath := "runtime",byteOffset:=16 },{ name := "code",type:=6,offset:=3,embedded:=false,tag := "",pkgPath := "runtime",byteOffset:=17 }]⟩:=by kernel_rfl
@[simp] theorem un8:Tryd.prog.underlying 8 = some (.struct #[{ name := "x",type:=2,offset:=0,embedded:=false,tag := "",pkgPath := "runtime",byteOffset:=0 },{ name := "y",type:=3,offset:=1,embedded:=false,tag := "",pkgPath := "runtime",byteOffset:=8 },{ name := "signed",type:=4,offset:=2,embedded:=false,tag := "",pkgPath := "runtime",byteOffset:=16 },{ name := "code",type:=6,offset:=3,embedded:=false,tag := "",pkgPath := "runtime",byteOffset:=17 }]):=by kernel_rfl
@[simp] theorem ty9:τ Tryd.prog 9 = some ⟨1,16,false,[.str []],.string⟩:=by kernel_rfl
@[simp] theorem un9:Tryd.prog.underlying 9 = some (.string):=by kernel_rfl
@[simp] theorem ty10:τ Tryd.prog 10 = some ⟨1,16,false,[.str []],.string⟩:=by kernel_rfl
@[simp] theorem un10:Tryd.prog.underlying 10 = some (.string):=by kernel_rfl
@[simp] theorem ty11:τ Tryd.prog 11 = some ⟨1,16,false,[.str []],.string⟩:=by kernel_rfl
@[simp] theorem un11:Tryd.prog.underlying 11 = some (.string):=by kernel_rfl
@[simp] theorem ty12:τ Tryd.prog 12 = some ⟨1,8,false,[.int .u64 0],.int .u64⟩:=by kernel_rfl
@[simp] theorem un12:Tryd.prog.underlying 12 = some (.int .u64):=by kernel_rfl
@[simp] theorem ty13:τ Tryd.prog 13 = some ⟨2,24,true,[.str [],.int .u64 0],.struct #[{ name := "msg",type:=9,offset:=0,embedded:=false,tag := "",pkgPath := "runtime",byteOffset:=0 },{ name := "addr",type:=12,offset:=1,embedded:=false,tag := "",pkgPath := "runtime",byteOffset:=16 }]⟩:=by kernel_rfl
@[simp] theorem un13:Tryd.prog.underlying 13 = some (.struct #[{ name := "msg",type:=9,offset:=0,embedded:=false,tag := "",pkgPath := "runtime",byteOffset:=0 },{ name := "addr",type:=12,offset:=1,embedded:=false,tag := "",pkgPath := "runtime",byteOffset:=16 }]):=by kernel_rfl
@[simp] theorem ty14:τ Tryd.prog 14 = some ⟨2,24,true,[.str [],.int .u64 0],.struct #[{ name := "msg",type:=9,offset:=0,embedded:=false,tag := "",pkgPath := "runtime",byteOffset:=0 },{ name := "addr",type:=12,offset:=1,embedded:=false,tag := "",pkgPath := "runtime",byteOffset:=16 }]⟩:=by kernel_rfl
@[simp] theorem un14:Tryd.prog.underlying 14 = some (.struct #[{ name := "msg",type:=9,offset:=0,embedded:=false,tag := "",pkgPath := "runtime",byteOffset:=0 },{ name := "addr",type:=12,offset:=1,embedded:=false,tag := "",pkgPath := "runtime",byteOffset:=16 }]):=by kernel_rfl
@[simp] theorem ty15:τ Tryd.prog 15 = some ⟨1,8,false,[.nilp],.pointer 105⟩:=by kernel_rfl
@[simp] theorem un15:Tryd.prog.underlying 15 = some (.pointer 105):=by kernel_rfl
@[simp] theorem ty17:τ Tryd.prog 17 = some ⟨1,8,false,[.nilp],.pointer 116⟩:=by kernel_rfl
@[simp] theorem un17:Tryd.prog.underlying 17 = some (.pointer 116):=by kernel_rfl
@[simp] theorem ty21:τ Tryd.prog 21 = some ⟨1,4,false,[.int .i32 0],.int .i32⟩:=by kernel_rfl
@[simp] theorem un21:Tryd.prog.underlying 21 = some (.int .i32):=by kernel_rfl
@[simp] theorem ty22:τ Tryd.prog 22 = some ⟨1,24,false,[.nil],.slice 3⟩:=by kernel_rfl
@[simp] theorem un22:Tryd.prog.underlying 22 = some (.slice 3):=by kernel_rfl
@[simp] theorem ty24:τ Tryd.prog 24 = some ⟨1,24,true,[.nil],.struct #[{ name := "Ranks",type:=22,offset:=0,embedded:=false,tag := "",pkgPath := "",byteOffset:=0 }]⟩:=by kernel_rfl
@[simp] theorem un24:Tryd.prog.underlying 24 = some (.struct #[{ name := "Ranks",type:=22,offset:=0,embedded:=false,tag := "",pkgPath := "",byteOffset:=0 }]):=by kernel_rfl
@[simp] theorem ty30:τ Tryd.prog 30 = some ⟨1,24,false,[.nil],.slice 9⟩:=by kernel_rfl
@[simp] theorem un30:Tryd.prog.underlying 30 = some (.slice 9):=by kernel_rfl
@[simp] theorem ty47:τ Tryd.prog 47 = some ⟨1,8,false,[.nilp],.pointer 50⟩:=by kernel_rfl
@[simp] theorem un47:Tryd.prog.underlying 47 = some (.pointer 50):=by kernel_rfl
@[simp] theorem ty48:τ Tryd.prog 48 = some ⟨1,24,false,[.nil],.slice 5⟩:=by kernel_rfl
@[simp] theorem un48:Tryd.prog.underlying 48 = some (.slice 5):=by kernel_rfl
@[simp] theorem ty49:τ Tryd.prog 49 = some ⟨2,32,true,[.nilp,.nil],.struct #[{ name := "addr",type:=47,offset:=0,embedded:=false,tag := "",pkgPath := "strings",byteOffset:=0 },{ name := "buf",type:=48,offset:=1,embedded:=false,tag := "",pkgPath := "strings",byteOffset:=8 }]⟩:=by kernel_rfl
@[simp] theorem un49:Tryd.prog.underlying 49 = some (.struct #[{ name := "addr",type:=47,offset:=0,embedded:=false,tag := "",pkgPath := "strings",byteOffset:=0 },{ name := "buf",type:=48,offset:=1,embedded:=false,tag := "",pkgPath := "strings",byteOffset:=8 }]):=by kernel_rfl
@[simp] theorem ty50:τ Tryd.prog 50 = some ⟨2,32,true,[.nilp,.nil],.struct #[{ name := "addr",type:=47,offset:=0,embedded:=false,tag := "",pkgPath := "strings",byteOffset:=0 },{ name := "buf",type:=48,offset:=1,embedded:=false,tag := "",pkgPath := "strings",byteOffset:=8 }]⟩:=by kernel_rfl
@[simp] theorem un50:Tryd.prog.underlying 50 = some (.struct #[{ name := "addr",type:=47,offset:=0,embedded:=false,tag := "",pkgPath := "strings",byteOffset:=0 },{ name := "buf",type:=48,offset:=1,embedded:=false,tag := "",pkgPath := "strings",byteOffset:=8 }]):=by kernel_rfl
@[simp] theorem ty55:τ Tryd.prog 55 = some ⟨1,8,false,[.nilp],.pointer 5⟩:=by kernel_rfl
@[simp] theorem un55:Tryd.prog.underlying 55 = some (.pointer 5):=by kernel_rfl
@[simp] theorem ty58:τ Tryd.prog 58 = some ⟨1,8,false,[.int .i64 0],.int .i64⟩:=by kernel_rfl
@[simp] theorem un58:Tryd.prog.underlying 58 = some (.int .i64):=by kernel_rfl
@[simp] theorem ty61:τ Tryd.prog 61 = some ⟨1,8,false,[.nilp],.pointer 77⟩:=by kernel_rfl
@[simp] theorem un61:Tryd.prog.underlying 61 = some (.pointer 77):=by kernel_rfl
@[simp] theorem ty71:τ Tryd.prog 71 = some ⟨1,8,false,[.int .u64 0],.int .u64⟩:=by kernel_rfl
@[simp] theorem un71:Tryd.prog.underlying 71 = some (.int .u64):=by kernel_rfl
@[simp] theorem ty74:τ Tryd.prog 74 = some ⟨1,8,false,[.int .u64 0],.int .u64⟩:=by kernel_rfl
@[simp] theorem un74:Tryd.prog.underlying 74 = some (.int .u64):=by kernel_rfl
@[simp] theorem ty77:τ Tryd.prog 77 = some ⟨3,48,true,[.str [],.str [],.any],.struct #[{ name := "Func",type:=9,offset:=0,embedded:=false,tag := "",pkgPath := "",byteOffset:=0 },{ name := "Num",type:=9,offset:=1,embedded:=false,tag := "",pkgPath := "",byteOffset:=16 },{ name := "Err",type:=44,offset:=2,embedded:=false,tag := "",pkgPath := "",byteOffset:=32 }]⟩:=by kernel_rfl
@[simp] theorem un77:Tryd.prog.underlying 77 = some (.struct #[{ name := "Func",type:=9,offset:=0,embedded:=false,tag := "",pkgPath := "",byteOffset:=0 },{ name := "Num",type:=9,offset:=1,embedded:=false,tag := "",pkgPath := "",byteOffset:=16 },{ name := "Err",type:=44,offset:=2,embedded:=false,tag := "",pkgPath := "",byteOffset:=32 }]):=by kernel_rfl
@[simp] theorem ty86:τ Tryd.prog 86 = some ⟨1,8,false,[.nilp],.pointer 88⟩:=by kernel_rfl
@[simp] theorem un86:Tryd.prog.underlying 86 = some (.pointer 88):=by kernel_rfl
@[simp] theorem ty87:τ Tryd.prog 87 = some ⟨1,16,true,[.str []],.struct #[{ name := "s",type:=9,offset:=0,embedded:=false,tag := "",pkgPath := "errors",byteOffset:=0 }]⟩:=by kernel_rfl
@[simp] theorem un87:Tryd.prog.underlying 87 = some (.struct #[{ name := "s",type:=9,offset:=0,embedded:=false,tag := "",pkgPath := "errors",byteOffset:=0 }]):=by kernel_rfl
@[simp] theorem ty88:τ Tryd.prog 88 = some ⟨1,16,true,[.str []],.struct #[{ name := "s",type:=9,offset:=0,embedded:=false,tag := "",pkgPath := "errors",byteOffset:=0 }]⟩:=by kernel_rfl
@[simp] theorem un88:Tryd.prog.underlying 88 = some (.struct #[{ name := "s",type:=9,offset:=0,embedded:=false,tag := "",pkgPath := "errors",byteOffset:=0 }]):=by kernel_rfl
@[simp] theorem ty91:τ Tryd.prog 91 = some ⟨1,4,false,[.int .u32 0],.int .u32⟩:=by kernel_rfl
@[simp] theorem un91:Tryd.prog.underlying 91 = some (.int .u32):=by kernel_rfl
@[simp] theorem ty97:τ Tryd.prog 97 = some ⟨2,2,true,[.int .u8 0,.int .u8 0],.struct #[{ name := "lo",type:=5,offset:=0,embedded:=false,tag := "",pkgPath := "unicode/utf8",byteOffset:=0 },{ name := "hi",type:=5,offset:=1,embedded:=false,tag := "",pkgPath := "unicode/utf8",byteOffset:=1 }]⟩:=by kernel_rfl
@[simp] theorem un97:Tryd.prog.underlying 97 = some (.struct #[{ name := "lo",type:=5,offset:=0,embedded:=false,tag := "",pkgPath := "unicode/utf8",byteOffset:=0 },{ name := "hi",type:=5,offset:=1,embedded:=false,tag := "",pkgPath := "unicode/utf8",byteOffset:=1 }]):=by kernel_rfl
@[simp] theorem ty105:τ Tryd.prog 105 = some ⟨4,40,true,[.nilp,.nilp,.nilp,.str []],.struct #[{ name := "_interface",type:=17,offset:=0,embedded:=false,tag := "",pkgPath := "runtime",byteOffset:=0 },{ name := "concrete",type:=17,offset:=1,embedded:=false,tag := "",pkgPath := "runtime",byteOffset:=8 },{ name := "asserted",type:=17,offset:=2,embedded:=false,tag := "",pkgPath := "runtime",byteOffset:=16 },{ name := "missingMethod",type:=9,offset:=3,embedded:=false,tag := "",pkgPath := "runtime",byteOffset:=24 }]⟩:=by kernel_rfl
@[simp] theorem un105:Tryd.prog.underlying 105 = some (.struct #[{ name := "_interface",type:=17,offset:=0,embedded:=false,tag := "",pkgPath := "runtime",byteOffset:=0 },{ name := "concrete",type:=17,offset:=1,embedded:=false,tag := "",pkgPath := "runtime",byteOffset:=8 },{ name := "asserted",type:=17,offset:=2,embedded:=false,tag := "",pkgPath := "runtime",byteOffset:=16 },{ name := "missingMethod",type:=9,offset:=3,embedded:=false,tag := "",pkgPath := "runtime",byteOffset:=24 }]):=by kernel_rfl
@[simp] theorem ty110:τ Tryd.prog 110 = some ⟨1,1,false,[.int .u8 0],.int .u8⟩:=by kernel_rfl
@[simp] theorem un110:Tryd.prog.underlying 110 = some (.int .u8):=by kernel_rfl
@[simp] theorem ty111:τ Tryd.prog 111 = some ⟨1,1,false,[.int .u8 0],.int .u8⟩:=by kernel_rfl
@[simp] theorem un111:Tryd.prog.underlying 111 = some (.int .u8):=by kernel_rfl
@[simp] theorem ty113:τ Tryd.prog 113 = some ⟨1,4,false,[.int .i32 0],.int .i32⟩:=by kernel_rfl
@[simp] theorem un113:Tryd.prog.underlying 113 = some (.int .i32):=by kernel_rfl
@[simp] theorem ty114:τ Tryd.prog 114 = some ⟨1,4,false,[.int .i32 0],.int .i32⟩:=by kernel_rfl
@[simp] theorem un114:Tryd.prog.underlying 114 = some (.int .i32):=by kernel_rfl
@[simp] theorem ty116:τ Tryd.prog 116 = some ⟨11,48,true,[.int .u64 0,.int .u64 0,.int .u32 0,.int .u8 0,.int .u8 0,.int .u8 0,.int .u8 0,.any,.nilp,.int .i32 0,.int .i32 0],.struct #[{ name := "Size_",type:=12,offset:=0,embedded:=false,tag := "",pkgPath := "",byteOffset:=0 },{ name := "PtrBytes",type:=12,offset:=1,embedded:=false,tag := "",pkgPath := "",byteOffset:=8 },{ name := "Hash",type:=91,offset:=2,embedded:=false,tag := "",pkgPath := "",byteOffset:=16 },{ name := "TFlag",type:=110,offset:=3,embedded:=false,tag := "",pkgPath := "",byteOffset:=20 },{ name := "Align_",type:=5,offset:=4,embedded:=false,tag := "",pkgPath := "",byteOffset:=21 },{ name := "FieldAlign_",type:=5,offset:=5,embedded:=false,tag := "",pkgPath := "",byteOffset:=22 },{ name := "Kind_",type:=111,offset:=6,embedded:=false,tag := "",pkgPath := "",byteOffset:=23 },{ name := "Equal",type:=112,offset:=7,embedded:=false,tag := "",pkgPath := "",byteOffset:=24 },{ name := "GCData",type:=55,offset:=8,embedded:=false,tag := "",pkgPath := "",byteOffset:=32 },{ name := "Str",type:=113,offset:=9,embedded:=false,tag := "",pkgPath := "",byteOffset:=40 },{ name := "PtrToThis",type:=114,offset:=10,embedded:=false,tag := "",pkgPath := "",byteOffset:=44 }]⟩:=by kernel_rfl
@[simp] theorem un116:Tryd.prog.underlying 116 = some (.struct #[{ name := "Size_",type:=12,offset:=0,embedded:=false,tag := "",pkgPath := "",byteOffset:=0 },{ name := "PtrBytes",type:=12,offset:=1,embedded:=false,tag := "",pkgPath := "",byteOffset:=8 },{ name := "Hash",type:=91,offset:=2,embedded:=false,tag := "",pkgPath := "",byteOffset:=16 },{ name := "TFlag",type:=110,offset:=3,embedded:=false,tag := "",pkgPath := "",byteOffset:=20 },{ name := "Align_",type:=5,offset:=4,embedded:=false,tag := "",pkgPath := "",byteOffset:=21 },{ name := "FieldAlign_",type:=5,offset:=5,embedded:=false,tag := "",pkgPath := "",byteOffset:=22 },{ name := "Kind_",type:=111,offset:=6,embedded:=false,tag := "",pkgPath := "",byteOffset:=23 },{ name := "Equal",type:=112,offset:=7,embedded:=false,tag := "",pkgPath := "",byteOffset:=24 },{ name := "GCData",type:=55,offset:=8,embedded:=false,tag := "",pkgPath := "",byteOffset:=32 },{ name := "Str",type:=113,offset:=9,embedded:=false,tag := "",pkgPath := "",byteOffset:=40 },{ name := "PtrToThis",type:=114,offset:=10,embedded:=false,tag := "",pkgPath := "",byteOffset:=44 }]):=by kernel_rfl
end Go.Proofs.YtiilmjojffjhlaaDoor.Vm
