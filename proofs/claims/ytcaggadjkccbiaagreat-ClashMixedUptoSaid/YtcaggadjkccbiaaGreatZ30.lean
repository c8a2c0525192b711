/- The document's free numbers, texts, fixed numbers, digests. -/
import Derived.Test.YtcaggadjkccbiaaGreatZ24
import Derived.Test.YtcaggadjkccbiaaGreatZ18
import Derived.Deep.RegionLaw
namespace Go.Proofs.YtcaggadjkccbiaaGreat
set_option maxHeartbeats 1000000
set_option maxRecDepth 100000
set_option linter.unusedVariables false
set_option linter.unusedSimpArgs false
open Go Go.RowKit

def cv1 (x:Value):Sem Value:=convert 29 9 x
def slowCv (P:Program) (v:Value) (w:World):Result Value:=(cv1 v).run P w
@[go_sem] theorem conv_at (g o:Nat) (w:World):(convert 29 9 (.slice (some ⟨g,o,none⟩) 1 1)).run Tryz.prog w=match w.cell? ⟨g,o,none⟩ with
  | some (.int .u8 x)=>.ok (.string ⟨#[UInt8.ofNat x.toNat]⟩) w
  | _=>slowCv Tryz.prog (.slice (some ⟨g,o,none⟩) 1 1) w:=by
 split
 ·rename_i x hc
  have hl:=run_loadCells_list (P:=Tryz.prog) w ⟨g,o,none⟩ [.int .u8 x] (by
   intro j u hj
   match j,hj with
   | 0,hj=>
    simp at hj
    subst hj
    rw [show (⟨g,o,none⟩:Addr).add 0=⟨g,o,none⟩ by simp [Addr.add],hc])
  rw [run_convert_bytes_string w 29 9 5 _ _ _ Tryz.underlying29 Tryz.underlying5 Tryz.underlying9]
  rw [run_bytesToString w ⟨g,o,none⟩ 1 1 [x] (by rw [show (1:Nat)=[Value.int .u8 x].length from rfl,hl];simp)]
  simp [ByteArray.empty,ByteArray.emptyWithCapacity];rfl
 ·rfl
theorem byteN' (n:Nat):(n.toUInt8).toNat=n % 256:=by simp
theorem str_cons (b:UInt8) (l:Bs):(⟨#[b]⟩:ByteArray)++⟨l.toArray⟩=⟨(b::l).toArray⟩:=by
 apply ByteArray.ext
 simp [ByteArray.data_append]
theorem str_app (k l:Bs):(⟨k.toArray⟩:ByteArray)++⟨l.toArray⟩=⟨(k++l).toArray⟩:=by
 apply ByteArray.ext
 simp [ByteArray.data_append]
theorem str_snoc (l:Bs) (b:UInt8):(⟨l.toArray⟩:ByteArray)++⟨#[b]⟩=⟨(l++[b]).toArray⟩:=by
 apply ByteArray.ext
 simp [ByteArray.data_append]

theorem ret_str2 {a b:ByteArray} (h:a=b):Ending.returned (.string a)=.returned (.string b):=by rw [h]

theorem rfree_any (n:Nat):∀ (w:World),n<18446744073709551616→Calls Tryz.prog 171 #[.int .u64 n] w (Rets (.string ⟨(freeB n).toArray⟩) w):=by
 induction n using Nat.strongRecOn with
 | _ n ih=>
  intro w h64
  by_cases h:n<128
  ·rw [freeB_small h]
   have hw:IntKind.u8.wrap (n:Int)=n:=by rw [IntKind.wrap_u8'];omega
   have hm:(n:Int) % 256=n:=by omega
   clear ih
   go_enter Tryz.func171,Tryz.ntmps171
   go_wp2_with fail
   go_ret
   exact ⟨rfl,by (try simp only [alloc_ext,drew_ext,drewN_ext,ext_ext]);exact ⟨_,_,rfl⟩⟩
  ·obtain ⟨k,hk⟩:∃ k,n / 128=k:=⟨_,rfl⟩
   obtain ⟨m,hm⟩:∃ m,n % 128=m:=⟨_,rfl⟩
   obtain ⟨b,hb⟩:∃ b,(m+128).toUInt8=b:=⟨_,rfl⟩
   have hbn:b.toNat=m+128:=by rw [← hb,byteN'];omega
   have IH:=Lib.hid (ih k (by omega))
   clear ih
   rw [freeB_big h,hm,hb,hk]
   have h2:k<18446744073709551616:=by omega
   have q1:(n:Int) / 128=(k:Int):=by omega
   have q2:(n:Int) % 128=(m:Int):=by omega
   have q3:(m:Int) % 256=(m:Int):=by omega
   have q4:(m:Int)+128=(b.toNat:Int):=by omega
   have q5:(b.toNat:Int) % 256=(b.toNat:Int):=by omega
   have q6:(b.toNat:Int)<256:=by omega
   have q7:(n:Int).tdiv 128=(k:Int):=by rw [Int.tdiv_eq_ediv_of_nonneg (by omega)];exact q1
   have q8:(n:Int).tmod 128=(m:Int):=by rw [Int.tmod_eq_emod_of_nonneg (by omega)];exact q2
   have w1:IntKind.u64.wrap (k:Int)=k:=by rw [IntKind.wrap_u64];omega
   have w2:IntKind.u8.wrap (m:Int)=m:=by rw [IntKind.wrap_u8'];omega
   have w3:IntKind.u8.wrap ((m:Int)+128)=(b.toNat:Int):=by rw [IntKind.wrap_u8'];omega
   have w4:IntKind.u8.wrap (b.toNat:Int)=(b.toNat:Int):=by rw [IntKind.wrap_u8'];omega
   have hl:=freeB_len64 k h2
   have hl9:¬ 9223372036854775807<1+List.length (freeB k):=by omega
   clear hk hm hb hbn
   go_enter Tryz.func171,Tryz.ntmps171
   go_wp2_with fail
   go_region_law (first
    | (refine step_call rfl 171 rfl #[.int .u64 (k:Int)] (by kernel_rfl) (IH.out _ h2) ?_;rintro e w1 ⟨rfl,bs,j,rfl⟩;refine ⟨_,rfl,?_⟩))
   all_goals go_wp2_with fail
   all_goals go_ret
   all_goals exact ⟨ret_str2 (str_cons _ _),(by (try simp only [alloc_ext,drew_ext,drewN_ext,ext_ext]);exact ⟨_,_,rfl⟩)⟩

theorem rtx_any (t:Bs) (w:World) (h:t.length≤140737488351232):Calls Tryz.prog 172 #[.string ⟨t.toArray⟩] w (Rets (.string ⟨(textB t).toArray⟩) w):=by
 have w1:IntKind.u64.wrap (t.length:Int)=t.length:=by rw [IntKind.wrap_u64];omega
 have h2:t.length<18446744073709551616:=by omega
 have hl:=freeB_len64 t.length h2
 go_enter Tryz.func172,Tryz.ntmps172
 go_wp2_with fail
 refine (rfree_any t.length _ h2).mono ?_
 rintro e w' ⟨rfl,bs,m,rfl⟩
 have hl9:¬ 9223372036854775807<(freeB t.length).length+t.length:=by omega
 go_wp2_with fail
 go_ret
 exact ⟨ret_str2 (str_app _ _),(by (try simp only [alloc_ext,drew_ext,drewN_ext,ext_ext]);exact ⟨_,_,rfl⟩)⟩

theorem rwid_any (n:Nat) (w:World) (h:n≤32):Calls Tryz.prog 169 #[.int .i64 n] w fun e w'=>e=.returned (.int .i64 n)∧w=w':=by
 go_enter Tryz.func169,Tryz.ntmps169
 go_wp2_with fail
 go_ret
 exact ⟨rfl,rfl⟩

theorem rfixed_any (size n:Nat) (w:World) (h:n<18446744073709551616) (hs:size≤1000):Calls Tryz.prog 173 #[.int .u64 n,.int .i64 size] w (Rets (.string ⟨(fixB size n).toArray⟩) w):=by
 go_enter Tryz.func173,Tryz.ntmps173
 go_wp2_with fail
 go_loopw [0,5,6] (fun x t i wr=>∃ (k y:Nat) (s:Bs) (bs:List Obj) (m:Nat),x=.int .u64 y∧t=.string ⟨s.toArray⟩∧i=.int .i64 k∧k≤size∧y<18446744073709551616∧s.length≤k∧wr=ext w bs m∧Hid (y=n / 256 ^ k)∧Hid (s=fixB k n)) (fun _ _ i _=>size - (intOf i).toNat)
 case atStart=>exact ⟨0,n,[],[],0,rfl,rfl,rfl,Nat.zero_le _,h,Nat.le_refl _,(ext_zero _).symm,by simp [Hid],rfl⟩
 case round=>
  obtain ⟨k,y,s,bs,m,rfl,rfl,rfl,hk,hy,hsl,rfl,HY,HSS⟩:=hrel
  by_cases hlt:k<size
  ·obtain ⟨b,hb⟩:∃ b,(y % 256).toUInt8=b:=⟨_,rfl⟩
   obtain ⟨z,hz⟩:∃ z,y / 256=z:=⟨_,rfl⟩
   have hbn:b.toNat=y % 256:=by rw [← hb,byteN'];omega
   have q1:IntKind.u8.wrap (y:Int)=(b.toNat:Int):=by rw [IntKind.wrap_u8'];omega
   have q2:(y:Int) % 256=(b.toNat:Int):=by omega
   have q3:(y:Int) / 256=(z:Int):=by omega
   have q4:IntKind.u64.wrap (z:Int)=(z:Int):=by rw [IntKind.wrap_u64];omega
   have hl9:¬ 9223372036854775807<1+s.length:=by omega
   have hz2:z<18446744073709551616:=by omega
   have HN:Hid (b::s=fixB (k+1) n):=Lib.hid (by
    show _=(n / 256 ^ k % 256).toUInt8::fixB k n
    rw [← HY.out,hb,HSS.out])
   have HZ:Hid (z=n / 256 ^ (k+1)):=Lib.hid (by rw [← hz,HY.out,Nat.div_div_eq_div_mul,Nat.pow_succ])
   clear hb hz hbn
   go_wp2_with fail
   go_roundw
   case rel=>exact ⟨k+1,z,b::s,_,_,by go_num,by simp [str_cons],by go_num,by omega,hz2,by simp;omega,(by (try simp only [alloc_ext,drew_ext,drewN_ext,ext_ext]);rfl),HZ,HN⟩
   case measure=>simp [intOf];omega
  ·obtain rfl:k=size:=by omega
   go_wp2_with fail
   go_ret
   exact ⟨by rw [← HSS.out];rfl,(by (try simp only [alloc_ext,drew_ext,drewN_ext,ext_ext]);exact ⟨_,_,rfl⟩)⟩

theorem rdg_any (n:Nat) (d:Dg) (w:World) (h:n≤32):Calls Tryz.prog 174 #[.int .i64 n,.agg d.c] w (Rets (.string ⟨(d.l.take n).toArray⟩) w):=by
 have hd:=d.h
 have B0:=Lib.hid (Blk.new w 36 d.c)
 go_enter Tryz.func174,Tryz.ntmps174
 go_wp2_with fail
 go_loopw [5,6] (fun t i wr=>∃ (k:Nat) (s:Bs) (bs:List Obj) (m:Nat),t=.string ⟨s.toArray⟩∧i=.int .i64 k∧k≤n∧s.length≤k∧wr=ext (w.alloc (.cells d.c 36)) bs m∧Hid (s=d.l.take k)) (fun _ i _=>n - (intOf i).toNat)
 case atStart=>exact ⟨0,[],[],0,rfl,rfl,Nat.zero_le _,Nat.le_refl _,ext_zero _,by simp [Hid]⟩
 case round=>
  obtain ⟨k,s,bs,m,rfl,rfl,hk,hsl,rfl,HSS⟩:=hrel
  by_cases hlt:k<n
  ·obtain ⟨b,hb⟩:∃ b,d.l[k]?=some b:=⟨_,List.getElem?_eq_getElem (by omega)⟩
   have c1:(w.alloc (.cells d.c 36)).cell? ⟨w.heap.size,k,none⟩=some (.int .u8 (b.toNat:Int)):=by
    rw [B0.out.cell]
    show (bC d.l).toArray[k]?=_
    simp [bC,hb]
   have c2:d.c[k]?=some (.int .u8 (b.toNat:Int)):=by
    show (bC d.l).toArray[k]?=_
    simp [bC,hb]
   have HN:Hid (s++[b]=d.l.take (k+1)):=Lib.hid (by rw [List.take_add_one,hb,HSS.out];rfl)
   have hl9:¬ 9223372036854775807<s.length+1:=by omega
   clear hb
   go_wp2_with (go_at_call 169;refine (rwid_any _ _ h).mono ?_;rintro e w' ⟨rfl,rfl⟩)
   go_roundw
   case rel=>exact ⟨k+1,s++[b],_,_,by simp [str_snoc],by go_num,by omega,by simp;omega,(by (try simp only [alloc_ext,drew_ext,drewN_ext,ext_ext]);rfl),HN⟩
   case measure=>simp [intOf];omega
  ·obtain rfl:k=n:=by omega
   go_wp2_with (go_at_call 169;refine (rwid_any _ _ h).mono ?_;rintro e w' ⟨rfl,rfl⟩)
   go_ret
   exact ⟨by rw [← HSS.out];rfl,(by (try simp only [alloc_ext,drew_ext,drewN_ext,ext_ext]);exact ⟨_,_,rfl⟩)⟩

end Go.Proofs.YtcaggadjkccbiaaGreat