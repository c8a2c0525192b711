/- The hash's constants; rows of words as values. -/
import Derived.Test.YtgjaaffheanobaaGreatZ26
import Derived.Test.YtgjaaffheanobaaGreatZ9
import Derived.Test.YtgjaaffheanobaaGreatZ38
namespace Go.Proofs.YtgjaaffheanobaaGreat
set_option linter.unusedVariables false
set_option linter.unusedSimpArgs false
open Go Go.RowKit

def wC (l:List W32):List Value:=l.map fun x=>.int .u32 (W x)
theorem wC_length (l:List W32):(wC l).length=l.length:=by simp [wC]
theorem wC_one (l:List W32):∀ v∈wC l,v.oneCell'=true:=by
 intro v hv
 simp only [wC,List.mem_map] at hv
 obtain ⟨b,_,rfl⟩:=hv
 rfl
@[go_sem] theorem okCells_wC (l:List W32):okCells (wC l).toArray=true:=okCells_of (by simpa using wC_one l)
theorem wC_get (l:List W32) (i:Nat):(wC l).toArray[i]?=(l[i]?).map fun x=>.int .u32 (W x):=by simp [wC]

def z64:List W32:=List.replicate 64 0
@[go_sem ↓] theorem zero_k64 (w:World):(zeroValue 258).run Tryz.prog w=.ok (.agg (wC z64).toArray) w:=by kernel_rfl
def z8:List W32:=List.replicate 8 0
@[go_sem ↓] theorem zero_st (w:World):(zeroValue 216).run Tryz.prog w=.ok (.agg (wC z8).toArray) w:=by kernel_rfl

@[go_sem ↓] theorem exec_load_st (a:Act) (dst:Option Tmp) (x:Operand) (ty:TypeId) (pos:String) (after:Array Edge) (guard:Option (Nat×Bool)) :
  execOp a.eval { dst,op:=.load 216 x,type:=ty,pos,after,guard }=ldBig 216 (a.eval x):=rfl
@[go_sem ↓] theorem exec_store_st (a:Act) (dst:Option Tmp) (x y:Operand) (ty:TypeId) (pos:String) (after:Array Edge) (guard:Option (Nat×Bool)) :
  execOp a.eval { dst,op:=.store 216 x y,type:=ty,pos,after,guard }=stBig 216 (a.eval x) (a.eval y):=rfl
@[go_sem] theorem run_load_st (a:Addr) (w:World):(ldBig 216 (.pointer (some a))).run Tryz.prog w=match rowAt? w a 8 with | some cs=>.ok (.value (.agg cs)) w | none=>slowLd Tryz.prog 216 (.pointer (some a)) w:=
 run_ldBig Tryz.prog 216 8 _ Tryz.underlying216 rfl (by kernel_rfl) a w
@[go_sem] theorem run_store_st (g o:Nat) (cs:Array Value) (w:World):(stBig 216 (.pointer (some ⟨g,o,none⟩)) (.agg cs)).run Tryz.prog w=match own? w g with | some c=>(if o+8≤c.size∧cs.size=8∧okCells cs=true then .ok .skip (w.setRow g (spl c o cs)) else slowSt Tryz.prog 216 (.pointer (some ⟨g,o,none⟩)) (.agg cs) w) | none=>slowSt Tryz.prog 216 (.pointer (some ⟨g,o,none⟩)) (.agg cs) w:=
 run_stBig Tryz.prog 216 8 (by kernel_rfl) g o cs w
@[go_sem ↓] theorem exec_load_k64 (a:Act) (dst:Option Tmp) (x:Operand) (ty:TypeId) (pos:String) (after:Array Edge) (guard:Option (Nat×Bool)) :
  execOp a.eval { dst,op:=.load 258 x,type:=ty,pos,after,guard }=ldBig 258 (a.eval x):=rfl
@[go_sem ↓] theorem exec_store_k64 (a:Act) (dst:Option Tmp) (x y:Operand) (ty:TypeId) (pos:String) (after:Array Edge) (guard:Option (Nat×Bool)) :
  execOp a.eval { dst,op:=.store 258 x y,type:=ty,pos,after,guard }=stBig 258 (a.eval x) (a.eval y):=rfl
@[go_sem] theorem run_load_k64 (a:Addr) (w:World):(ldBig 258 (.pointer (some a))).run Tryz.prog w=match rowAt? w a 64 with | some cs=>.ok (.value (.agg cs)) w | none=>slowLd Tryz.prog 258 (.pointer (some a)) w:=
 run_ldBig Tryz.prog 258 64 _ Tryz.underlying258 rfl (by kernel_rfl) a w
@[go_sem] theorem run_store_k64 (g o:Nat) (cs:Array Value) (w:World):(stBig 258 (.pointer (some ⟨g,o,none⟩)) (.agg cs)).run Tryz.prog w=match own? w g with | some c=>(if o+64≤c.size∧cs.size=64∧okCells cs=true then .ok .skip (w.setRow g (spl c o cs)) else slowSt Tryz.prog 258 (.pointer (some ⟨g,o,none⟩)) (.agg cs) w) | none=>slowSt Tryz.prog 258 (.pointer (some ⟨g,o,none⟩)) (.agg cs) w:=
 run_stBig Tryz.prog 258 64 (by kernel_rfl) g o cs w
@[go_sem ↓] theorem exec_load_b64 (a:Act) (dst:Option Tmp) (x:Operand) (ty:TypeId) (pos:String) (after:Array Edge) (guard:Option (Nat×Bool)) :
  execOp a.eval { dst,op:=.load 221 x,type:=ty,pos,after,guard }=ldBig 221 (a.eval x):=rfl
@[go_sem] theorem run_load_b64 (a:Addr) (w:World):(ldBig 221 (.pointer (some a))).run Tryz.prog w=match rowAt? w a 64 with | some cs=>.ok (.value (.agg cs)) w | none=>slowLd Tryz.prog 221 (.pointer (some a)) w:=
 run_ldBig Tryz.prog 221 64 _ Tryz.underlying221 rfl (by kernel_rfl) a w

-- BUILD RULES
set_option maxRecDepth 100000 in
@[go_sem ↓] theorem exec_build_st (a:Act) (dst:Option Tmp) (ty:TypeId) (pos:String) (after:Array Edge) (guard:Option (Nat×Bool)) (w:World) :
  (execOp a.eval { dst,op:=.build 216 #[(0,.const (.int .u32 1779033703)),(1,.const (.int .u32 3144134277)),(2,.const (.int .u32 1013904242)),(3,.const (.int .u32 2773480762)),(4,.const (.int .u32 1359893119)),(5,.const (.int .u32 2600822924)),(6,.const (.int .u32 528734635)),(7,.const (.int .u32 1541459225))],type:=ty,pos,after,guard }).run Tryz.prog w=.ok (.value (.agg (wC shaH.l).toArray)) w:=by kernel_rfl
set_option maxRecDepth 100000 in
@[go_sem ↓] theorem exec_build_k64 (a:Act) (dst:Option Tmp) (ty:TypeId) (pos:String) (after:Array Edge) (guard:Option (Nat×Bool)) (w:World) :
  (execOp a.eval { dst,op:=.build 258 #[(0,.const (.int .u32 1116352408)),(1,.const (.int .u32 1899447441)),(2,.const (.int .u32 3049323471)),(3,.const (.int .u32 3921009573)),(4,.const (.int .u32 961987163)),(5,.const (.int .u32 1508970993)),(6,.const (.int .u32 2453635748)),(7,.const (.int .u32 2870763221)),(8,.const (.int .u32 3624381080)),(9,.const (.int .u32 310598401)),(10,.const (.int .u32 607225278)),(11,.const (.int .u32 1426881987)),(12,.const (.int .u32 1925078388)),(13,.const (.int .u32 2162078206)),(14,.const (.int .u32 2614888103)),(15,.const (.int .u32 3248222580)),(16,.const (.int .u32 3835390401)),(17,.const (.int .u32 4022224774)),(18,.const (.int .u32 264347078)),(19,.const (.int .u32 604807628)),(20,.const (.int .u32 770255983)),(21,.const (.int .u32 1249150122)),(22,.const (.int .u32 1555081692)),(23,.const (.int .u32 1996064986)),(24,.const (.int .u32 2554220882)),(25,.const (.int .u32 2821834349)),(26,.const (.int .u32 2952996808)),(27,.const (.int .u32 3210313671)),(28,.const (.int .u32 3336571891)),(29,.const (.int .u32 3584528711)),(30,.const (.int .u32 113926993)),(31,.const (.int .u32 338241895)),(32,.const (.int .u32 666307205)),(33,.const (.int .u32 773529912)),(34,.const (.int .u32 1294757372)),(35,.const (.int .u32 1396182291)),(36,.const (.int .u32 1695183700)),(37,.const (.int .u32 1986661051)),(38,.const (.int .u32 2177026350)),(39,.const (.int .u32 2456956037)),(40,.const (.int .u32 2730485921)),(41,.const (.int .u32 2820302411)),(42,.const (.int .u32 3259730800)),(43,.const (.int .u32 3345764771)),(44,.const (.int .u32 3516065817)),(45,.const (.int .u32 3600352804)),(46,.const (.int .u32 4094571909)),(47,.const (.int .u32 275423344)),(48,.const (.int .u32 430227734)),(49,.const (.int .u32 506948616)),(50,.const (.int .u32 659060556)),(51,.const (.int .u32 883997877)),(52,.const (.int .u32 958139571)),(53,.const (.int .u32 1322822218)),(54,.const (.int .u32 1537002063)),(55,.const (.int .u32 1747873779)),(56,.const (.int .u32 1955562222)),(57,.const (.int .u32 2024104815)),(58,.const (.int .u32 2227730452)),(59,.const (.int .u32 2361852424)),(60,.const (.int .u32 2428436474)),(61,.const (.int .u32 2756734187)),(62,.const (.int .u32 3204031479)),(63,.const (.int .u32 3329325298))],type:=ty,pos,after,guard }).run Tryz.prog w=.ok (.value (.agg (wC shaK).toArray)) w:=by kernel_rfl

set_option maxHeartbeats 4000000 in
set_option maxRecDepth 100000 in
theorem begin_any (w:World):Calls Tryz.prog 122 #[] w (Rets (.agg (wC shaH.l).toArray) w):=by
 have h0:(wC z8).length=8:=by decide
 have h1:(wC shaH.l).length=8:=by decide
 have h2:=okCells_wC shaH.l
 go_enter Tryz.func122,Tryz.ntmps122
 go_wp2
 refine row_ret w.heap.size (t:=216) (cs:=(wC shaH.l).toArray) rfl Tryz.underlying216 rfl (by kernel_rfl) rfl (by rw [spl_whole _ _ (by simp [h0,h1])];exact Blk.new w _ _) rfl ?_
 exact ⟨rfl,by (try simp only [alloc_ext,drew_ext,drewN_ext,ext_ext]);exact ⟨_,_,rfl⟩⟩

set_option maxHeartbeats 4000000 in
set_option maxRecDepth 100000 in
theorem constants_any (w:World):Calls Tryz.prog 162 #[] w (Rets (.agg (wC shaK).toArray) w):=by
 have h0:(wC z64).length=64:=by decide
 have h1:(wC shaK).length=64:=by decide
 have h2:=okCells_wC shaK
 go_enter Tryz.func162,Tryz.ntmps162
 go_wp2
 refine row_ret w.heap.size (t:=258) (cs:=(wC shaK).toArray) rfl Tryz.underlying258 rfl (by kernel_rfl) rfl (by rw [spl_whole _ _ (by simp [h0,h1])];exact Blk.new w _ _) rfl ?_
 exact ⟨rfl,by (try simp only [alloc_ext,drew_ext,drewN_ext,ext_ext]);exact ⟨_,_,rfl⟩⟩

end Go.Proofs.YtgjaaffheanobaaGreat