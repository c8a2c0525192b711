/- Words of 32 bits as values; turning. -/
import Derived.Test.YtgjaaffheanobaaGreatZ1
import Derived.Test.YtgjaaffheanobaaGreatZ25
namespace Go.Proofs.YtgjaaffheanobaaGreat
set_option linter.unusedVariables false
set_option linter.unusedSimpArgs false
open Go Go.RowKit

def W (x:W32):Int:=(x.toNat:Int)
theorem W_lo (x:W32):0≤W x:=by unfold W;omega
theorem W_hi (x:W32):W x<4294967296:=by have:=x.toNat_lt;unfold W;omega
@[go_sem] theorem W_xor (x y:W32):bits .xor .u32 (W x) (W y)=W (x ^^^ y):=by
 unfold W;rw [u32_xor_nat _ _ x.toNat_lt y.toNat_lt];simp
@[go_sem] theorem W_and (x y:W32):bits .and .u32 (W x) (W y)=W (x &&& y):=by
 unfold W;rw [u32_and_nat _ _ x.toNat_lt y.toNat_lt];simp
@[go_sem] theorem W_or (x y:W32):bits .or .u32 (W x) (W y)=W (x ||| y):=by
 unfold W;rw [u32_or_nat _ _ x.toNat_lt y.toNat_lt];simp
@[go_sem] theorem W_add (x y:W32):IntKind.u32.wrap (W x+W y)=W (x+y):=by
 unfold W;rw [IntKind.wrap_u32'];simp
theorem W_shr (x:W32) (k:Nat) (hk:k<32):W x / (2 ^ k:Nat)=W (x >>> (UInt32.ofNat k)):=by
 unfold W
 rw [UInt32.toNat_shiftRight,UInt32.toNat_ofNat_of_lt' (by simp [UInt32.size];omega),Nat.mod_eq_of_lt hk,Nat.shiftRight_eq_div_pow]
 simp
theorem W_shl (x:W32) (k:Nat) (hk:k<32):W x*(2 ^ k:Nat) % 4294967296=W (x <<< (UInt32.ofNat k)):=by
 unfold W
 rw [UInt32.toNat_shiftLeft,UInt32.toNat_ofNat_of_lt' (by simp [UInt32.size];omega),Nat.mod_eq_of_lt hk,Nat.shiftLeft_eq]
 simp
@[go_sem] theorem W_u8 (b:UInt8):IntKind.u32.wrap ((b.toNat:Nat):Int)=W b.toUInt32:=by
 unfold W;rw [IntKind.wrap_u32',UInt8.toNat_toUInt32];have:=b.toNat_lt;omega
@[go_sem] theorem W_s24 (x:W32):IntKind.u32.wrap (W x*(16777216:Int))=W (x <<< 24):=by rw [IntKind.wrap_u32'];exact W_shl x 24 (by omega)
@[go_sem] theorem W_s16 (x:W32):IntKind.u32.wrap (W x*(65536:Int))=W (x <<< 16):=by rw [IntKind.wrap_u32'];exact W_shl x 16 (by omega)
@[go_sem] theorem W_s8 (x:W32):IntKind.u32.wrap (W x*(256:Int))=W (x <<< 8):=by rw [IntKind.wrap_u32'];exact W_shl x 8 (by omega)
@[go_sem] theorem W_m24 (x:W32):W x*(16777216:Int) % (4294967296:Int)=W (x <<< 24):=W_shl x 24 (by omega)
@[go_sem] theorem W_m16 (x:W32):W x*(65536:Int) % (4294967296:Int)=W (x <<< 16):=W_shl x 16 (by omega)
@[go_sem] theorem W_m8 (x:W32):W x*(256:Int) % (4294967296:Int)=W (x <<< 8):=W_shl x 8 (by omega)
@[go_sem] theorem W_addm (x y:W32):(W x+W y) % (4294967296:Int)=W (x+y):=by unfold W;simp
@[go_sem] theorem W_shr3 (x:W32):W x / (8:Int)=W (x >>> 3):=W_shr x 3 (by omega)
@[go_sem] theorem W_shr10 (x:W32):W x / (1024:Int)=W (x >>> 10):=W_shr x 10 (by omega)

theorem rol_2 (x:W32):bits .or .u32 (W x*1073741824 % 4294967296) (W x / 4)=W (ror x 2):=by
 have h1:W x / (4:Int)=W (x >>> 2):=W_shr x 2 (by omega)
 have h2:W x*(1073741824:Int) % (4294967296:Int)=W (x <<< 30):=W_shl x 30 (by omega)
 rw [h1,h2,W_or,UInt32.or_comm];rfl
theorem rotate_2 (x:W32) (w:World):Calls Tryz.prog 161 #[.int .u32 (W x),.int .i64 (-2)] w fun e w'=>e=.returned (.int .u32 (W (ror x 2)))∧w=w':=by
 have h0:=W_lo x;have h1:=W_hi x
 have he:bits .and .u64 (IntKind.u64.wrap (-2)) 31=30:=by decide
 go_enter Tryz.func161,Tryz.ntmps161
 go_wp2
 go_ret
 exact ⟨ret_int (rol_2 x),rfl⟩

theorem rol_6 (x:W32):bits .or .u32 (W x*67108864 % 4294967296) (W x / 64)=W (ror x 6):=by
 have h1:W x / (64:Int)=W (x >>> 6):=W_shr x 6 (by omega)
 have h2:W x*(67108864:Int) % (4294967296:Int)=W (x <<< 26):=W_shl x 26 (by omega)
 rw [h1,h2,W_or,UInt32.or_comm];rfl
theorem rotate_6 (x:W32) (w:World):Calls Tryz.prog 161 #[.int .u32 (W x),.int .i64 (-6)] w fun e w'=>e=.returned (.int .u32 (W (ror x 6)))∧w=w':=by
 have h0:=W_lo x;have h1:=W_hi x
 have he:bits .and .u64 (IntKind.u64.wrap (-6)) 31=26:=by decide
 go_enter Tryz.func161,Tryz.ntmps161
 go_wp2
 go_ret
 exact ⟨ret_int (rol_6 x),rfl⟩

theorem rol_7 (x:W32):bits .or .u32 (W x*33554432 % 4294967296) (W x / 128)=W (ror x 7):=by
 have h1:W x / (128:Int)=W (x >>> 7):=W_shr x 7 (by omega)
 have h2:W x*(33554432:Int) % (4294967296:Int)=W (x <<< 25):=W_shl x 25 (by omega)
 rw [h1,h2,W_or,UInt32.or_comm];rfl
theorem rotate_7 (x:W32) (w:World):Calls Tryz.prog 161 #[.int .u32 (W x),.int .i64 (-7)] w fun e w'=>e=.returned (.int .u32 (W (ror x 7)))∧w=w':=by
 have h0:=W_lo x;have h1:=W_hi x
 have he:bits .and .u64 (IntKind.u64.wrap (-7)) 31=25:=by decide
 go_enter Tryz.func161,Tryz.ntmps161
 go_wp2
 go_ret
 exact ⟨ret_int (rol_7 x),rfl⟩

theorem rol_11 (x:W32):bits .or .u32 (W x*2097152 % 4294967296) (W x / 2048)=W (ror x 11):=by
 have h1:W x / (2048:Int)=W (x >>> 11):=W_shr x 11 (by omega)
 have h2:W x*(2097152:Int) % (4294967296:Int)=W (x <<< 21):=W_shl x 21 (by omega)
 rw [h1,h2,W_or,UInt32.or_comm];rfl
theorem rotate_11 (x:W32) (w:World):Calls Tryz.prog 161 #[.int .u32 (W x),.int .i64 (-11)] w fun e w'=>e=.returned (.int .u32 (W (ror x 11)))∧w=w':=by
 have h0:=W_lo x;have h1:=W_hi x
 have he:bits .and .u64 (IntKind.u64.wrap (-11)) 31=21:=by decide
 go_enter Tryz.func161,Tryz.ntmps161
 go_wp2
 go_ret
 exact ⟨ret_int (rol_11 x),rfl⟩

theorem rol_13 (x:W32):bits .or .u32 (W x*524288 % 4294967296) (W x / 8192)=W (ror x 13):=by
 have h1:W x / (8192:Int)=W (x >>> 13):=W_shr x 13 (by omega)
 have h2:W x*(524288:Int) % (4294967296:Int)=W (x <<< 19):=W_shl x 19 (by omega)
 rw [h1,h2,W_or,UInt32.or_comm];rfl
theorem rotate_13 (x:W32) (w:World):Calls Tryz.prog 161 #[.int .u32 (W x),.int .i64 (-13)] w fun e w'=>e=.returned (.int .u32 (W (ror x 13)))∧w=w':=by
 have h0:=W_lo x;have h1:=W_hi x
 have he:bits .and .u64 (IntKind.u64.wrap (-13)) 31=19:=by decide
 go_enter Tryz.func161,Tryz.ntmps161
 go_wp2
 go_ret
 exact ⟨ret_int (rol_13 x),rfl⟩

theorem rol_17 (x:W32):bits .or .u32 (W x*32768 % 4294967296) (W x / 131072)=W (ror x 17):=by
 have h1:W x / (131072:Int)=W (x >>> 17):=W_shr x 17 (by omega)
 have h2:W x*(32768:Int) % (4294967296:Int)=W (x <<< 15):=W_shl x 15 (by omega)
 rw [h1,h2,W_or,UInt32.or_comm];rfl
theorem rotate_17 (x:W32) (w:World):Calls Tryz.prog 161 #[.int .u32 (W x),.int .i64 (-17)] w fun e w'=>e=.returned (.int .u32 (W (ror x 17)))∧w=w':=by
 have h0:=W_lo x;have h1:=W_hi x
 have he:bits .and .u64 (IntKind.u64.wrap (-17)) 31=15:=by decide
 go_enter Tryz.func161,Tryz.ntmps161
 go_wp2
 go_ret
 exact ⟨ret_int (rol_17 x),rfl⟩

theorem rol_18 (x:W32):bits .or .u32 (W x*16384 % 4294967296) (W x / 262144)=W (ror x 18):=by
 have h1:W x / (262144:Int)=W (x >>> 18):=W_shr x 18 (by omega)
 have h2:W x*(16384:Int) % (4294967296:Int)=W (x <<< 14):=W_shl x 14 (by omega)
 rw [h1,h2,W_or,UInt32.or_comm];rfl
theorem rotate_18 (x:W32) (w:World):Calls Tryz.prog 161 #[.int .u32 (W x),.int .i64 (-18)] w fun e w'=>e=.returned (.int .u32 (W (ror x 18)))∧w=w':=by
 have h0:=W_lo x;have h1:=W_hi x
 have he:bits .and .u64 (IntKind.u64.wrap (-18)) 31=14:=by decide
 go_enter Tryz.func161,Tryz.ntmps161
 go_wp2
 go_ret
 exact ⟨ret_int (rol_18 x),rfl⟩

theorem rol_19 (x:W32):bits .or .u32 (W x*8192 % 4294967296) (W x / 524288)=W (ror x 19):=by
 have h1:W x / (524288:Int)=W (x >>> 19):=W_shr x 19 (by omega)
 have h2:W x*(8192:Int) % (4294967296:Int)=W (x <<< 13):=W_shl x 13 (by omega)
 rw [h1,h2,W_or,UInt32.or_comm];rfl
theorem rotate_19 (x:W32) (w:World):Calls Tryz.prog 161 #[.int .u32 (W x),.int .i64 (-19)] w fun e w'=>e=.returned (.int .u32 (W (ror x 19)))∧w=w':=by
 have h0:=W_lo x;have h1:=W_hi x
 have he:bits .and .u64 (IntKind.u64.wrap (-19)) 31=13:=by decide
 go_enter Tryz.func161,Tryz.ntmps161
 go_wp2
 go_ret
 exact ⟨ret_int (rol_19 x),rfl⟩

theorem rol_22 (x:W32):bits .or .u32 (W x*1024 % 4294967296) (W x / 4194304)=W (ror x 22):=by
 have h1:W x / (4194304:Int)=W (x >>> 22):=W_shr x 22 (by omega)
 have h2:W x*(1024:Int) % (4294967296:Int)=W (x <<< 10):=W_shl x 10 (by omega)
 rw [h1,h2,W_or,UInt32.or_comm];rfl
theorem rotate_22 (x:W32) (w:World):Calls Tryz.prog 161 #[.int .u32 (W x),.int .i64 (-22)] w fun e w'=>e=.returned (.int .u32 (W (ror x 22)))∧w=w':=by
 have h0:=W_lo x;have h1:=W_hi x
 have he:bits .and .u64 (IntKind.u64.wrap (-22)) 31=10:=by decide
 go_enter Tryz.func161,Tryz.ntmps161
 go_wp2
 go_ret
 exact ⟨ret_int (rol_22 x),rfl⟩

theorem rol_25 (x:W32):bits .or .u32 (W x*128 % 4294967296) (W x / 33554432)=W (ror x 25):=by
 have h1:W x / (33554432:Int)=W (x >>> 25):=W_shr x 25 (by omega)
 have h2:W x*(128:Int) % (4294967296:Int)=W (x <<< 7):=W_shl x 7 (by omega)
 rw [h1,h2,W_or,UInt32.or_comm];rfl
theorem rotate_25 (x:W32) (w:World):Calls Tryz.prog 161 #[.int .u32 (W x),.int .i64 (-25)] w fun e w'=>e=.returned (.int .u32 (W (ror x 25)))∧w=w':=by
 have h0:=W_lo x;have h1:=W_hi x
 have he:bits .and .u64 (IntKind.u64.wrap (-25)) 31=7:=by decide
 go_enter Tryz.func161,Tryz.ntmps161
 go_wp2
 go_ret
 exact ⟨ret_int (rol_25 x),rfl⟩

end Go.Proofs.YtgjaaffheanobaaGreat