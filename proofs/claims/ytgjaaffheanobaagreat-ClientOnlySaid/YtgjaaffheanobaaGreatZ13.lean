/- Values without addresses: loads, fields, elements, cuts. -/
import Derived.Test.YtgjaaffheanobaaGreatZ12
import Derived.Laws.BytesString
namespace Go.Proofs.YtgjaaffheanobaaGreat
set_option linter.unusedVariables false
set_option linter.unusedSimpArgs false
open Go Go.RowKit

open Classical in
noncomputable def loadV (T:TypeId→Ty) (bk:List (Nat×TypeId×D)) (t:TypeId) (x:D):Option D:=
 match x with
 | .pt d=>if (T t).known=true∧d.size=(T t).zero.size∧d.isAgg=(T t).agg then some d else Option.none
 | .v (.pointer (some ⟨b,o,Option.none⟩))=>
  if (T t).known=true then
   match getM bk b with
   | some (_,d)=>subD d o (T t).zero.size (T t).agg
   | Option.none=>Option.none
  else Option.none
 | _=>Option.none

def szs (ds:List D):List Nat:=ds.map D.size
theorem szs_take (ds zs:List D) (h:szs ds=szs zs) (k:Nat):D.sizes (ds.take k)=D.sizes (zs.take k):=by
 induction ds generalizing zs k with
 | nil=>cases zs with | nil=>rfl | cons z zs=>simp [szs] at h
 | cons d ds ih=>
  cases zs with
  | nil=>simp [szs] at h
  | cons z zs=>
   simp only [szs,List.map_cons,List.cons.injEq] at h
   cases k with
   | zero=>rfl
   | succ k=>simp only [List.take_succ_cons,D.sizes,h.1,ih zs h.2 k]

def u8D (b:UInt8):D:=.v (.int .u8 b.toNat)
theorem rv_u8 {w:World} {I:Nat→Nat→Prop} (b:UInt8) (us:List Value):RV w I (u8D b) us ↔ us=[.int .u8 b.toNat]:=by
 unfold u8D RV;exact ⟨fun h=>h.1,fun h=>⟨h,rfl⟩⟩
theorem REs.of_u8 {w:World} {I:Nat→Nat→Prop} {b:Nat}:∀ (l:Bs) (o:Nat),CellsAt w b o (bC l)→REs w I b o (l.map u8D)
 | [],o,h=>by rw [List.map_nil];unfold REs;trivial
 | x::l,o,h=>by
  rw [List.map_cons]
  unfold REs
  refine ⟨[.int .u8 x.toNat],(rv_u8 x _).2 rfl,fun j v hj=>?_,REs.of_u8 l (o+1) (fun j v hj=>?_)⟩
  ·cases j with
   | zero=>exact h 0 v hj
   | succ j=>simp at hj
  ·have:=h (j+1) v hj
   rwa [show o+(j+1)=o+1+j by omega] at this
theorem REs.u8 {w:World} {I:Nat→Nat→Prop} {b:Nat}:∀ (l:Bs) (o:Nat),REs w I b o (l.map u8D)→CellsAt w b o (bC l)
 | [],o,h=>fun j v hj=>by simp [bC] at hj
 | x::l,o,h=>by
  rw [List.map_cons] at h
  unfold REs at h
  obtain ⟨us,h1,h2,h3⟩:=h
  have:=(rv_u8 x us).1 h1
  subst this
  have ih:=REs.u8 l (o+1) h3
  intro j v hj
  cases j with
  | zero=>exact h2 0 v hj
  | succ j=>
   have:=ih j v hj
   rwa [show o+1+j=o+(j+1) by omega] at this
theorem fold_pushA (t:Bs) (s:ByteArray):((t.map fun b=>(b.toNat:Int)).foldl (fun r n=>r.push (UInt8.ofNat n.toNat)) s)=⟨s.data++t.toArray⟩:=by
 induction t generalizing s with
 | nil=>simp
 | cons b t ih=>
  simp only [List.map_cons,List.foldl_cons,ih]
  apply ByteArray.ext
  simp [ByteArray.push]
theorem conv_bytes {P:Program} {w:World} {t u e:TypeId} (h1:P.underlying t=some (.slice e)) (h2:P.underlying e=some (.int .u8)) (h3:P.underlying u=some .string) (a:Addr) (c:Nat) (l:Bs) (h:∀ j v,(bC l)[j]?=some v→w.cell? (a.add j)=some v) :
  (convert t u (.slice (some a) l.length c)).run P w=.ok (.string ⟨l.toArray⟩) w:=by
 have hl:=run_loadCells_list (P:=P) w a (bC l) h
 rw [bC_length] at hl
 rw [run_convert_bytes_string w t u e _ _ _ h1 h2 h3]
 rw [run_bytesToString w a l.length c (l.map fun b=>(b.toNat:Int)) (by rw [hl];simp [bC]),fold_pushA]
 simp [ByteArray.empty,ByteArray.emptyWithCapacity];rfl
theorem conv_nilB {P:Program} {w:World} {t u e:TypeId} (h1:P.underlying t=some (.slice e)) (h2:P.underlying e=some (.int .u8)) (h3:P.underlying u=some .string):(convert t u (.slice none 0 0)).run P w=.ok (.string ⟨([]:Bs).toArray⟩) w:=by
 rw [run_convert_bytes_string w t u e _ _ _ h1 h2 h3]
 rfl

def fieldAddrV (ty:Ty) (x:D) (k:Nat):Option D:=
 match ty,x with
 | .struct zs,.pt (.agg ds)=>if szs ds=szs zs then (ds[k]?).map .pt else Option.none
 | .struct zs,.v (.pointer (some ⟨b,o,Option.none⟩))=>if k<zs.length then some (.v (.pointer (some ⟨b,o+D.sizes (zs.take k),Option.none⟩))) else Option.none
 | _,_=>Option.none

def fieldV (ty:Ty) (x:D) (k:Nat):Option D:=
 match ty,x with
 | .struct zs,.agg ds=>if szs ds=szs zs then (match ds[k]?,zs[k]? with | some d,some z=>if d.isAgg=z.isAgg then some d else Option.none | _,_=>Option.none) else Option.none
 | _,_=>Option.none

def indexAddrV (T:TypeId→Ty) (t:TypeId) (x i:D):Option D:=
 match T t,x,i with
 | .slice e,.sl _ es,.v (.int _ n)=>
  if 0≤n∧(T e).known=true then
   match es[n.toNat]? with
   | some d=>if d.size=(T e).zero.size then some (.pt d) else Option.none
   | Option.none=>Option.none
  else Option.none
 | .arr _ zs,.v (.pointer (some ⟨b,o,Option.none⟩)),.v (.int _ n)=>if 0≤n∧n.toNat<zs.length then some (.v (.pointer (some ⟨b,o+D.sizes (zs.take n.toNat),Option.none⟩))) else Option.none
 | .arr _ zs,.pt (.agg ds),.v (.int _ n)=>if 0≤n∧szs ds=szs zs then (ds[n.toNat]?).map .pt else Option.none
 | .dig,.v (.pointer (some ⟨b,o,Option.none⟩)),.v (.int _ n)=>if 0≤n∧n<32 then some (.v (.pointer (some ⟨b,o+n.toNat,Option.none⟩))) else Option.none
 | .dig,.pt (.dg d),.v (.int _ n)=>if 0≤n then (d.l[n.toNat]?).map (fun b=>.pt (.v (.int .u8 b.toNat))) else Option.none
 | _,_,_=>Option.none

def indexV (ty:Ty) (x i:D):Option D:=
 match ty,x,i with
 | .arr _ zs,.agg ds,.v (.int _ n)=>if 0≤n∧szs ds=szs zs then (match ds[n.toNat]?,zs[n.toNat]? with | some d,some z=>if d.isAgg=z.isAgg then some d else Option.none | _,_=>Option.none) else Option.none
 | .str,.v (.string s),.v (.int _ n)=>if 0≤n then (s.data.toList[n.toNat]?).map (fun b=>.v (.int .u8 b.toNat)) else Option.none
 | _,_,_=>Option.none

def bndV (x:Option D) (d:Nat):Option Nat:=
 match x with
 | Option.none=>some d
 | some (.v (.int _ n))=>if 0≤n then some n.toNat else Option.none
 | some _=>Option.none

open Classical in
noncomputable def sliceV (T:TypeId→Ty) (t:TypeId) (x:D) (lo hi mx:Option D):Option D:=
 match T t,x with
 | .str,.v (.string s)=>
  match mx,bndV lo 0,bndV hi s.size with
  | Option.none,some l,some h=>if l≤h∧h≤s.size then some (.v (.string (s.extract l h))) else Option.none
  | _,_,_=>Option.none
 | .dig,.pt (.dg d)=>
  match mx,bndV lo 0,bndV hi 32 with
  | Option.none,some l,some h=>if l≤h∧h≤32 then some (.sl .none (((d.l.drop l).take (h - l)).map u8D)) else Option.none
  | _,_,_=>Option.none
 | .slice e,.sl _ es=>
  match bndV lo 0,bndV hi es.length with
  | some l,some h=>
   if l≤h∧h≤es.length∧(T e).known=true∧∀ d∈es,d.size=(T e).zero.size then
    match mx with
    | Option.none=>some (.sl .none ((es.drop l).take (h - l)))
    | some m=>if bndV (some m) 0=some h∧hi≠Option.none then some (.sl .full ((es.drop l).take (h - l))) else Option.none
   else Option.none
  | _,_=>Option.none
 | _,_=>Option.none

def bytesOf:List D→Option Bs
 | []=>some []
 | .v (.int .u8 n)::l=>if 0≤n∧n<256 then (bytesOf l).map (UInt8.ofNat n.toNat::·) else Option.none
 | _=>Option.none
theorem bytesOf_map:∀ bs:Bs,bytesOf (bs.map u8D)=some bs
 | []=>rfl
 | b::l=>by
  have hb:=b.toNat_lt
  rw [List.map_cons,u8D,bytesOf,if_pos (by omega),bytesOf_map l]
  simp
theorem bytesOf_some:∀ {es:List D} {bs:Bs},bytesOf es=some bs→es=bs.map u8D
 | [],bs,h=>by simp only [bytesOf,Option.some.injEq] at h;subst h;rfl
 | e::es,bs,h=>by
  unfold bytesOf at h
  split at h
  ·rename_i heq;cases heq
  ·rename_i n l heq
   simp only [List.cons.injEq] at heq
   obtain ⟨rfl,rfl⟩:=heq
   split at h
   ·rename_i hn
    obtain ⟨bs',h1,rfl⟩:=Option.map_eq_some_iff.1 h
    rw [bytesOf_some h1,List.map_cons]
    congr 1
    unfold u8D
    congr 2
    rw [UInt8.toNat_ofNat']
    omega
   ·cases h
  ·cases h
def convV (T:TypeId→Ty) (a b:Ty) (x:D):Option D:=
 match a,b,x with
 | .int _,.int k,.v (.int _ n)=>some (.v (.int k (k.wrap n)))
 | .str,.str,.v (.string s)=>some (.v (.string s))
 | .slice e,.str,.sl _ es=>(match T e with | .int .u8=>(bytesOf es).map fun bs=>.v (.string ⟨bs.toArray⟩) | _=>Option.none)
 | _,_,_=>Option.none

section
variable {P : Program} {T : TypeId → Ty} {w : World} {S : Sto}

theorem loadV_ok (hT:TysOk P T) (hS:StAt w S) {t:TypeId} {x d:D} {y:Value} (h:loadV T S.bk t x=some d) (hx:RVal w S.I x y):Yields P w S.I (Instr.loadAt t y) d:=by
 unfold loadV at h
 split at h
 ·rename_i e
  split at h
  ·rename_i hc
   obtain ⟨h1,h2,h3⟩:=hc
   simp only [Option.some.injEq] at h
   subst h
   have ok:=hT t (Ty.known_ne h1)
   unfold RVal RV at hx
   obtain ⟨b,o,us,he,hb,hi,hd,hc⟩:=hx
   simp only [List.cons.injEq,and_true] at he
   subst he
   have hl:=RV.len _ _ hd
   refine ⟨_,?_,hd.loaded⟩
   simp only [Instr.loadAt,Instr.sureAddr,Sem.run_bind,Sem.run_pure,Result.andThen_ok]
   refine run_load_cells b o us e.isAgg (by rw [ok.run_agg (Ty.known_ne h1),h3]) (by rw [ok.run_size,hl,h2]) (fun hg=>?_) hc
   rw [hl];exact hd.size1 hg
  ·cases h
 ·rename_i b o
  split at h
  ·rename_i h1
   have ok:=hT t (Ty.known_ne h1)
   split at h
   ·rename_i tb d0 hg
    obtain ⟨us,hb,hd⟩:=(hS.mutAt _ _ _ (getM_mem hg)).blk (mapOf_ne (subD_tup h))
    have hd:=hd.plain (subD_tup h)
    unfold RVal at hx
    obtain ⟨rfl,-⟩:=hx
    obtain ⟨xs,ys,zs,rfl,h3,h4,h5,h6⟩:=subD_ok d0 us o _ _ d hd h
    have hl:=RV.len _ _ h4
    refine ⟨_,?_,h4.loaded⟩
    simp only [Instr.loadAt,Instr.sureAddr,Sem.run_bind,Sem.run_pure,Result.andThen_ok]
    refine run_load_cells b o ys d.isAgg (by rw [ok.run_agg (Ty.known_ne h1),h6]) (by rw [ok.run_size,hl,h5]) (fun hg=>?_) (fun j v hj=>?_)
    ·rw [hl];exact h4.size1 hg
    ·rw [hb.cell (o+j)]
     have hlt:j<ys.length:=(List.getElem?_eq_some_iff.1 hj).1
     simp only [List.getElem?_toArray,← h3,List.append_assoc]
     rw [List.getElem?_append_right (by omega),Nat.add_sub_cancel_left,List.getElem?_append_left hlt]
     exact hj
   ·cases h
  ·cases h
 ·cases h

theorem fieldAddrV_ok (hT:TysOk P T) {t:TypeId} {x d:D} {k:Nat} {y:Value} (h:fieldAddrV (T t) x k=some d) (hx:RVal w S.I x y):Yields P w S.I (Instr.fieldAt t y k) d:=by
 unfold fieldAddrV at h
 have hadd:∀ b o j,(⟨b,o,Option.none⟩:Addr).add j=⟨b,o+j,Option.none⟩:=fun b o j=>by unfold Addr.add;split <;> simp_all
 split at h
 ·rename_i zs ds e
  have ok:=hT t (by rw [e];simp)
  rw [e] at ok
  obtain ⟨dd,h1,h2⟩:=ok.desc
  simp only [Ty.isDesc] at h2
  obtain ⟨F,rfl,h3,h4⟩:=h2
  split at h
  ·rename_i hz
   cases hk:ds[k]? with
   | none=>rw [hk] at h;cases h
   | some dk=>
    rw [hk] at h
    simp only [Option.map_some,Option.some.injEq] at h
    subst h
    have hlen:ds.length=zs.length:=by have:=congrArg List.length hz;simpa [szs] using this
    have hkl:k<F.size:=by rw [h3,← hlen];exact (List.getElem?_eq_some_iff.1 hk).1
    obtain ⟨z,j,dd,a1,a2,a3,a4,a5,a6,a7⟩:=h4 k F[k] (Array.getElem?_eq_getElem hkl)
    unfold RVal RV at hx
    obtain ⟨b,o,us,he,hb,hi,hd,hc⟩:=hx
    simp only [List.cons.injEq,and_true] at he
    subst he
    unfold RV at hd
    obtain ⟨xs,ys,zz,rfl,h5,h6,-⟩:=RVs.set ds us k dk hd hk
    refine ⟨.pointer (some ⟨b,o+D.sizes (ds.take k),Option.none⟩),?_,?_⟩
    ·simp only [Instr.fieldAt,Sem.run_bind,run_underlying h1,Result.andThen_ok,Array.getElem?_eq_getElem hkl,Instr.sureAddr,Sem.run_pure,fieldPlace,sizeOf,typeInfo,run_program,a3,a5,if_false,hadd,a2,szs_take ds zs hz k]
    ·unfold RVal RV
     refine ⟨b,o+D.sizes (ds.take k),ys,rfl,hb,?_,h6,fun j v hj=>?_⟩
     ·have hle:D.sizes (ds.take k)+dk.size≤(D.agg ds).size:=by
       have:=RVs.len ds _ hd
       have hly:=RV.len _ _ h6
       simp only [List.length_append,h5,hly] at this
       show _≤D.sizes ds
       omega
      exact ⟨hi.1,fun L hL=>Nat.le_trans (by omega) (hi.2 L hL)⟩
     ·have hlt:j<ys.length:=(List.getElem?_eq_some_iff.1 hj).1
      have:=hc (D.sizes (ds.take k)+j) v (by rw [← h5,List.append_assoc,List.getElem?_append_right (by omega),Nat.add_sub_cancel_left,List.getElem?_append_left hlt];exact hj)
      rw [← Nat.add_assoc] at this
      exact this
  ·cases h
 ·rename_i zs b o e
  have ok:=hT t (by rw [e];simp)
  rw [e] at ok
  obtain ⟨dd,h1,h2⟩:=ok.desc
  simp only [Ty.isDesc] at h2
  obtain ⟨F,rfl,h3,h4⟩:=h2
  split at h
  ·rename_i hk
   simp only [Option.some.injEq] at h
   subst h
   have hkl:k<F.size:=by omega
   obtain ⟨z,j,dd,a1,a2,a3,a4,a5,a6,a7⟩:=h4 k F[k] (Array.getElem?_eq_getElem hkl)
   unfold RVal at hx
   obtain ⟨rfl,-⟩:=hx
   refine ⟨_,?_,RVal.vv rfl⟩
   simp only [Instr.fieldAt,Sem.run_bind,run_underlying h1,Result.andThen_ok,Array.getElem?_eq_getElem hkl,Instr.sureAddr,Sem.run_pure,fieldPlace,sizeOf,typeInfo,run_program,a3,a5,if_false,hadd,a2]
  ·cases h
 ·cases h

theorem fieldV_ok (hT:TysOk P T) {t:TypeId} {x d:D} {k:Nat} {y:Value} (h:fieldV (T t) x k=some d) (hx:RVal w S.I x y):Yields P w S.I (Instr.field t y k) d:=by
 unfold fieldV at h
 split at h
 ·rename_i zs ds e
  have ok:=hT t (by rw [e];simp)
  rw [e] at ok
  obtain ⟨dd,h1,h2⟩:=ok.desc
  simp only [Ty.isDesc] at h2
  obtain ⟨F,rfl,h3,h4⟩:=h2
  split at h
  ·rename_i hz
   split at h
   ·rename_i d' z hk hzk
    split at h
    ·rename_i hag
     simp only [Option.some.injEq] at h
     subst h
     have hlen:ds.length=zs.length:=by have:=congrArg List.length hz;simpa [szs] using this
     have hkl:k<F.size:=by rw [h3,← hlen];exact (List.getElem?_eq_some_iff.1 hk).1
     obtain ⟨z',j,dd,a1,a2,a3,a4,a5,a6,a7⟩:=h4 k F[k] (Array.getElem?_eq_getElem hkl)
     rw [hzk] at a1
     simp only [Option.some.injEq] at a1
     subst a1
     unfold RVal at hx
     obtain ⟨us,rfl,hd⟩:=hx
     obtain ⟨xs,ys,zz,rfl,h5,h6,-⟩:=RVs.set ds us k d' hd hk
     have hly:=RV.len _ _ h6
     have hds:d'.size=z.size:=by
      have h1:(szs ds)[k]?=(szs zs)[k]?:=by rw [hz]
      simpa [szs,List.getElem?_map,hk,hzk] using h1
     refine ⟨_,?_,h6.loaded⟩
     simp only [Instr.field,Sem.run_bind,run_underlying h1,Result.andThen_ok,Array.getElem?_eq_getElem hkl,asAgg,Sem.run_pure,part,run_isAgg a6,a7,← hag,a2,← szs_take ds zs hz k,← h5]
     cases hg:d'.isAgg with
     | true=>
      simp only [if_true,Sem.run_bind,sizeOf,typeInfo,run_program,a3,Result.andThen_ok,Sem.run_pure,a4,← hds,← hly]
      simp [ofCells,List.extract_eq_take_drop]
     | false=>
      have hl1:ys.length=1:=by rw [hly];exact h6.size1 hg
      match ys,hl1 with
      | [u],_=>simp [ofCells]
    ·cases h
   ·cases h
  ·cases h
 ·cases h

theorem indexAddrV_ok (hT:TysOk P T) {t:TypeId} {x i d:D} {y z:Value} (h:indexAddrV T t x i=some d) (hx:RVal w S.I x y) (hi:RVal w S.I i z):Yields P w S.I (Instr.indexAt t y z) d:=by
 unfold indexAddrV at h
 have hadd:∀ b o j,(⟨b,o,Option.none⟩:Addr).add j=⟨b,o+j,Option.none⟩:=fun b o j=>by unfold Addr.add;split <;> simp_all
 split at h
 ·rename_i e tg es k n ht
  have ok:=hT t (by rw [ht];simp)
  rw [ht] at ok
  obtain ⟨dd,h1,h2⟩:=ok.desc
  simp only [Ty.isDesc] at h2
  subst h2
  split at h
  ·rename_i hc
   obtain ⟨hn,hkn⟩:=hc
   have oke:=hT e (Ty.known_ne hkn)
   split at h
   ·rename_i d0 hd0
    split at h
    ·rename_i hsz
     simp only [Option.some.injEq] at h
     subst h
     unfold RVal at hi
     obtain ⟨rfl,-⟩:=hi
     unfold RVal RV at hx
     obtain ⟨a,m,c,he,h3,h4,-,h5⟩:=hx
     simp only [List.cons.injEq,and_true] at he
     subst he
     have hlt:n.toNat<es.length:=(List.getElem?_eq_some_iff.1 hd0).1
     rcases h5 with ⟨_,rfl,_⟩ | ⟨_,rfl,_⟩ | ⟨b,o,rfl,hb,hib,⟨zz,hz⟩,hr⟩
     ·simp at hlt
     ·simp at hlt
     ·have hzz:d0.size=zz:=hz d0 (List.mem_of_getElem? hd0)
      obtain ⟨us,h6,h7⟩:=REs.get o es zz hz hr n.toNat d0 hd0
      have hnm:n<m:=by omega
      refine ⟨.pointer (some ⟨b,o+n.toNat*zz,Option.none⟩),?_,?_⟩
      ·simp only [Instr.indexAt,Sem.run_bind,asIntOf,Sem.run_pure,Result.andThen_ok,run_underlying h1,hn,hnm,and_self,if_true,oke.run_size,← hsz,hzz,hadd,Bool.and_false]
      ·unfold RVal RV
       refine ⟨b,o+n.toNat*zz,us,rfl,hb,?_,h6,h7⟩
       rw [sizes_const es zz hz] at hib
       have:(n.toNat+1)*zz≤es.length*zz:=Nat.mul_le_mul_right _ hlt
       rw [Nat.add_mul] at this
       exact ⟨hib.1,fun L hL=>Nat.le_trans (by omega) (hib.2 L hL)⟩
    ·cases h
   ·cases h
  ·cases h
 ·rename_i e zs b o k n ht
  have ok:=hT t (by rw [ht];simp)
  rw [ht] at ok
  obtain ⟨dd,h1,h2⟩:=ok.desc
  simp only [Ty.isDesc] at h2
  obtain ⟨j,rfl,h3,d2,h4,h5⟩:=h2
  split at h
  ·rename_i hn
   simp only [Option.some.injEq] at h
   subst h
   unfold RVal at hx hi
   obtain ⟨rfl,-⟩:=hx
   obtain ⟨rfl,-⟩:=hi
   refine ⟨_,?_,RVal.vv rfl⟩
   rw [sizes_const (zs.take n.toNat) j.size (fun z h=>(h5 z (List.mem_of_mem_take h)).1),List.length_take,Nat.min_eq_left (by omega)]
   have hn':0≤n∧n<(zs.length:Int):=by omega
   simp only [Instr.indexAt,Sem.run_bind,asIntOf,Sem.run_pure,Result.andThen_ok,run_underlying h1,Instr.sureAddr,hn',and_self,if_true,sizeOf,typeInfo,run_program,h3,hadd]
  ·cases h
 ·rename_i e zs ds k n ht
  have ok:=hT t (by rw [ht];simp)
  rw [ht] at ok
  obtain ⟨dd,h1,h2⟩:=ok.desc
  simp only [Ty.isDesc] at h2
  obtain ⟨j,rfl,h3,d2,h4,h5⟩:=h2
  split at h
  ·rename_i hn
   obtain ⟨hn,hz⟩:=hn
   obtain ⟨dk,hk,rfl⟩:=Option.map_eq_some_iff.1 h
   have hlen:ds.length=zs.length:=by have:=congrArg List.length hz;simpa [szs] using this
   have hlt:n.toNat<ds.length:=(List.getElem?_eq_some_iff.1 hk).1
   unfold RVal at hi
   obtain ⟨rfl,-⟩:=hi
   unfold RVal RV at hx
   obtain ⟨b,o,us,he,hb,hib,hd,hc⟩:=hx
   simp only [List.cons.injEq,and_true] at he
   subst he
   unfold RV at hd
   obtain ⟨xs,ys,zz,rfl,h6,h7,-⟩:=RVs.set ds us n.toNat dk hd hk
   refine ⟨.pointer (some ⟨b,o+D.sizes (ds.take n.toNat),Option.none⟩),?_,?_⟩
   ·rw [szs_take ds zs hz,sizes_const (zs.take n.toNat) j.size (fun z h=>(h5 z (List.mem_of_mem_take h)).1),List.length_take,Nat.min_eq_left (by omega)]
    have hn':0≤n∧n<(zs.length:Int):=by omega
    simp only [Instr.indexAt,Sem.run_bind,asIntOf,Sem.run_pure,Result.andThen_ok,run_underlying h1,Instr.sureAddr,hn',and_self,if_true,sizeOf,typeInfo,run_program,h3,hadd]
   ·unfold RVal RV
    refine ⟨b,o+D.sizes (ds.take n.toNat),ys,rfl,hb,?_,h7,fun j v hj=>?_⟩
    ·have hle:D.sizes (ds.take n.toNat)+dk.size≤(D.agg ds).size:=by
      have:=RVs.len ds _ hd
      have hly:=RV.len _ _ h7
      simp only [List.length_append,h6,hly] at this
      show _≤D.sizes ds
      omega
     exact ⟨hib.1,fun L hL=>Nat.le_trans (by omega) (hib.2 L hL)⟩
    ·have hlt:j<ys.length:=(List.getElem?_eq_some_iff.1 hj).1
     have:=hc (D.sizes (ds.take n.toNat)+j) v (by rw [← h6,List.append_assoc,List.getElem?_append_right (by omega),Nat.add_sub_cancel_left,List.getElem?_append_left hlt];exact hj)
     rw [← Nat.add_assoc] at this
     exact this
  ·cases h
 ·rename_i b o k n ht
  have ok:=hT t (by rw [ht];simp)
  rw [ht] at ok
  obtain ⟨dd,h1,h2⟩:=ok.desc
  simp only [Ty.isDesc] at h2
  obtain ⟨e,rfl,h3,h4⟩:=h2
  split at h
  ·rename_i hn
   simp only [Option.some.injEq] at h
   subst h
   unfold RVal at hx hi
   obtain ⟨rfl,-⟩:=hx
   obtain ⟨rfl,-⟩:=hi
   refine ⟨_,?_,RVal.vv rfl⟩
   cases hq:P.info? e with
   | none=>rw [hq] at h4;cases h4
   | some i=>
    have hi1:i.size=1:=by rw [hq] at h4;simpa using h4
    have hn':0≤n∧n<((32:Nat):Int):=hn
    simp only [Instr.indexAt,Sem.run_bind,asIntOf,Sem.run_pure,Result.andThen_ok,run_underlying h1,Instr.sureAddr,hn',and_self,if_true,sizeOf,typeInfo,run_program,hq,hi1,hadd,Nat.mul_one]
  ·cases h
 ·rename_i d0 k n ht
  have ok:=hT t (by rw [ht];simp)
  rw [ht] at ok
  obtain ⟨dd,h1,h2⟩:=ok.desc
  simp only [Ty.isDesc] at h2
  obtain ⟨e,rfl,h3,h4⟩:=h2
  split at h
  ·rename_i hn
   obtain ⟨u,hu,rfl⟩:=Option.map_eq_some_iff.1 h
   have hlt:n.toNat<d0.l.length:=(List.getElem?_eq_some_iff.1 hu).1
   have hlt32:=hlt
   rw [d0.h] at hlt32
   unfold RVal at hi
   obtain ⟨rfl,-⟩:=hi
   unfold RVal RV at hx
   obtain ⟨b,o,us,he,hb,hib,hd,hc⟩:=hx
   simp only [List.cons.injEq,and_true] at he
   subst he
   unfold RV at hd
   subst hd
   refine ⟨.pointer (some ⟨b,o+n.toNat,Option.none⟩),?_,?_⟩
   ·cases hq:P.info? e with
    | none=>rw [hq] at h4;cases h4
    | some i=>
     have hi1:i.size=1:=by rw [hq] at h4;simpa using h4
     have hn':0≤n∧n<((32:Nat):Int):=by omega
     simp only [Instr.indexAt,Sem.run_bind,asIntOf,Sem.run_pure,Result.andThen_ok,run_underlying h1,Instr.sureAddr,hn',and_self,if_true,sizeOf,typeInfo,run_program,hq,hi1,hadd,Nat.mul_one]
   ·unfold RVal RV
    refine ⟨b,o+n.toNat,[.int .u8 u.toNat],rfl,hb,?_,by unfold RV;exact ⟨rfl,rfl⟩,fun j v hj=>?_⟩
    ·have:o+n.toNat+1≤o+32:=by omega
     exact ⟨hib.1,fun L hL=>Nat.le_trans this (hib.2 L hL)⟩
    ·have hj0:j=0:=by have:=(List.getElem?_eq_some_iff.1 hj).1;simp at this;exact this
     subst hj0
     simp only [List.getElem?_cons_zero,Option.some.injEq] at hj
     subst hj
     exact hc n.toNat _ (by simp [bC,hu])
  ·cases h
 ·cases h

theorem indexV_ok (hT:TysOk P T) {t:TypeId} {x i d:D} {y z:Value} (h:indexV (T t) x i=some d) (hx:RVal w S.I x y) (hi:RVal w S.I i z):Yields P w S.I (Instr.index t y z) d:=by
 unfold indexV at h
 split at h
 ·rename_i e zs ds k n ht
  have ok:=hT t (by rw [ht];simp)
  rw [ht] at ok
  obtain ⟨dd,h1,h2⟩:=ok.desc
  simp only [Ty.isDesc] at h2
  obtain ⟨j,rfl,h3,d2,h4,h5⟩:=h2
  split at h
  ·rename_i hn
   obtain ⟨hn,hz⟩:=hn
   split at h
   ·rename_i dk z hk hzk
    split at h
    ·rename_i hag
     simp only [Option.some.injEq] at h
     subst h
     have hlen:ds.length=zs.length:=by have:=congrArg List.length hz;simpa [szs] using this
     have hlt:n.toNat<ds.length:=(List.getElem?_eq_some_iff.1 hk).1
     unfold RVal at hi
     obtain ⟨rfl,-⟩:=hi
     unfold RVal at hx
     obtain ⟨us,rfl,hd⟩:=hx
     obtain ⟨xs,ys,zz,rfl,h6,h7,-⟩:=RVs.set ds us n.toNat dk hd hk
     have hly:=RV.len _ _ h7
     have hoff:n.toNat*j.size=xs.length:=by
      rw [h6,szs_take ds zs hz,sizes_const (zs.take n.toNat) j.size (fun z h=>(h5 z (List.mem_of_mem_take h)).1),List.length_take,Nat.min_eq_left (by omega)]
     have hn':0≤n∧n<(zs.length:Int):=by omega
     have h8:=h5 z (List.mem_of_getElem? hzk)
     have hds:dk.size=z.size:=by
      have h1:(szs ds)[n.toNat]?=(szs zs)[n.toNat]?:=by rw [hz]
      simpa [szs,List.getElem?_map,hk,hzk] using h1
     refine ⟨_,?_,h7.loaded⟩
     simp only [Instr.index,Sem.run_bind,asIntOf,Sem.run_pure,Result.andThen_ok,run_underlying h1,hn',and_self,if_true,sizeOf,typeInfo,run_program,h3,part,run_isAgg h4,h8.2,← hag,hoff]
     cases hg:dk.isAgg with
     | true=>
      simp only [if_true,Sem.run_bind,sizeOf,typeInfo,run_program,h3,Result.andThen_ok,Sem.run_pure,← h8.1,← hds,← hly]
      simp [ofCells,List.extract_eq_take_drop]
     | false=>
      have hl1:ys.length=1:=by rw [hly];exact h7.size1 hg
      match ys,hl1 with
      | [u],_=>simp [ofCells]
    ·cases h
   ·cases h
  ·cases h
 ·rename_i s k n ht
  have ok:=hT t (by rw [ht];simp)
  rw [ht] at ok
  obtain ⟨dd,h1,h2⟩:=ok.desc
  simp only [Ty.isDesc] at h2
  subst h2
  unfold RVal at hx hi
  obtain ⟨rfl,-⟩:=hx
  obtain ⟨rfl,-⟩:=hi
  split at h
  ·rename_i hn
   cases hb:s.data.toList[n.toNat]? with
   | none=>rw [hb] at h;cases h
   | some b=>
    rw [hb] at h
    simp only [Option.map_some,Option.some.injEq] at h
    subst h
    refine ⟨_,?_,RVal.vv rfl⟩
    have hlt:n.toNat<s.size:=by have:=(List.getElem?_eq_some_iff.1 hb).1;simpa using this
    have hb':s[n.toNat]?=some b:=by
     rw [getElem?_pos s n.toNat hlt]
     have:=(List.getElem?_eq_some_iff.1 hb).2
     rw [← this];rfl
    simp only [Instr.index,Sem.run_bind,asIntOf,Sem.run_pure,Result.andThen_ok,run_underlying h1,hn,if_true,hb']
  ·cases h
 ·cases h

theorem convV_ok (hT:TysOk P T) {t u:TypeId} {x d:D} {y:Value} (h:convV T (T t) (T u) x=some d) (hx:RVal w S.I x y):Yields P w S.I (convert t u y) d:=by
 unfold convV at h
 split at h
 ·rename_i k0 k s n e1 e2
  have ok1:=hT t (by rw [e1];simp)
  have ok2:=hT u (by rw [e2];simp)
  rw [e1] at ok1
  rw [e2] at ok2
  obtain ⟨d1,h1,h2⟩:=ok1.desc
  obtain ⟨d2,h3,h4⟩:=ok2.desc
  simp only [Ty.isDesc] at h2 h4
  subst h2 h4
  unfold RVal at hx
  obtain ⟨rfl,-⟩:=hx
  simp only [Option.some.injEq] at h
  subst h
  exact ⟨_,by simp only [convert,Sem.run_bind,run_underlying h1,run_underlying h3,Result.andThen_ok];rfl,RVal.vv rfl⟩
 ·rename_i s e1 e2
  have ok1:=hT t (by rw [e1];simp)
  have ok2:=hT u (by rw [e2];simp)
  rw [e1] at ok1
  rw [e2] at ok2
  obtain ⟨d1,h1,h2⟩:=ok1.desc
  obtain ⟨d2,h3,h4⟩:=ok2.desc
  simp only [Ty.isDesc] at h2 h4
  subst h2 h4
  unfold RVal at hx
  obtain ⟨rfl,-⟩:=hx
  simp only [Option.some.injEq] at h
  subst h
  exact ⟨_,by simp only [convert,Sem.run_bind,run_underlying h1,run_underlying h3,Result.andThen_ok];rfl,RVal.vv rfl⟩
 ·rename_i e tg es e1 e2
  split at h
  ·rename_i e3
   obtain ⟨bs,h5,rfl⟩:=Option.map_eq_some_iff.1 h
   have:=bytesOf_some h5
   subst this
   have ok1:=hT t (by rw [e1];simp)
   have ok2:=hT u (by rw [e2];simp)
   have ok3:=hT e (by rw [e3];simp)
   rw [e1] at ok1
   rw [e2] at ok2
   rw [e3] at ok3
   obtain ⟨d1,h1,h2⟩:=ok1.desc
   obtain ⟨d2,h3,h4⟩:=ok2.desc
   obtain ⟨d3,h6,h7⟩:=ok3.desc
   simp only [Ty.isDesc] at h2 h4 h7
   subst h2 h4 h7
   refine ⟨_,?_,RVal.vv rfl⟩
   unfold RVal RV at hx
   obtain ⟨a,n,c,he,hn,hc,-,hr⟩:=hx
   simp only [List.cons.injEq,and_true] at he
   rw [List.length_map] at hn
   subst he hn
   rcases hr with ⟨rfl,h8,rfl⟩ | ⟨-,h8,h9⟩ | ⟨b,o,rfl,_,_,_,h8⟩
   ·have:bs=[]:=by simpa using h8
    subst this
    exact conv_nilB h1 h6 h3
   ·have:bs=[]:=by simpa using h8
    subst this
    obtain ⟨a0,rfl⟩:=Option.ne_none_iff_exists'.1 h9
    exact conv_bytes h1 h6 h3 a0 c [] (fun j v hj=>by simp [bC] at hj)
   ·have h9:=REs.u8 _ o h8
    exact conv_bytes h1 h6 h3 _ c bs (fun j v hj=>by
     have:=h9 j v hj
     have hadd:(⟨b,o,none⟩:Addr).add j=⟨b,o+j,none⟩:=by unfold Addr.add;split <;> simp_all
     rw [hadd];exact this)
  ·cases h
 ·cases h

theorem bndV_ok {x:Option D} {y:Option Value} (hxy:(x=Option.none∧y=Option.none)∨∃ d v,x=some d∧y=some v∧RVal w S.I d v) {q n:Nat} (h:bndV x q=some n) :
  (y=Option.none∧n=q)∨∃ (k:IntKind) (m:Int),y=some (.int k m)∧0≤m∧m.toNat=n:=by
 rcases hxy with ⟨rfl,rfl⟩ | ⟨d,v,rfl,rfl,hv⟩
 ·simp only [bndV,Option.some.injEq] at h;exact .inl ⟨rfl,h.symm⟩
 ·unfold bndV at h
  split at h
  ·rename_i e;cases e
  ·rename_i k m e
   simp only [Option.some.injEq] at e
   subst e
   split at h
   ·rename_i hm
    simp only [Option.some.injEq] at h
    unfold RVal at hv
    obtain ⟨rfl,-⟩:=hv
    exact .inr ⟨k,m,rfl,hm,h⟩
   ·cases h
  ·cases h

theorem I_le {b e e':Nat} (h:S.I b e) (he:e'≤e):S.I b e':=⟨h.1,fun L hL=>Nat.le_trans he (h.2 L hL)⟩

theorem run_bound {y:Value} {k:IntKind} {m:Int} {n q:Nat} (hy:y=.int k m) (h0:0≤m) (hn:m.toNat=n) (hq:n≤q) (c:BoundsCode):(Instr.sliceBound y q c).run P w=.ok n w:=by
 subst hy
 have:0≤m∧m≤q:=by omega
 simp [Instr.sliceBound,Sem.run_bind,asIntOf,this,hn]

theorem sliceV_ok (hT:TysOk P T) {t:TypeId} {x d:D} {lo hi mx:Option D} {y:Value} {lo' hi' mx':Option Value} (h:sliceV T t x lo hi mx=some d) (hx:RVal w S.I x y)
  (h1:(lo=Option.none∧lo'=Option.none)∨∃ d v,lo=some d∧lo'=some v∧RVal w S.I d v) (h2:(hi=Option.none∧hi'=Option.none)∨∃ d v,hi=some d∧hi'=some v∧RVal w S.I d v)
  (h3:(mx=Option.none∧mx'=Option.none)∨∃ d v,mx=some d∧mx'=some v∧RVal w S.I d v):Yields P w S.I (Instr.sliceAt t y lo' hi' mx') d:=by
 unfold sliceV at h
 split at h
 ·rename_i s ht
  have ok:=hT t (by rw [ht];simp)
  rw [ht] at ok
  obtain ⟨dd,hu,hd⟩:=ok.desc
  simp only [Ty.isDesc] at hd
  subst hd
  unfold RVal at hx
  obtain ⟨rfl,-⟩:=hx
  split at h
  ·rename_i l hh e1 e2
   obtain rfl:mx'=Option.none:=by rcases h3 with h3 | ⟨d,v,e,_⟩;exact h3.2;cases e
   split at h
   ·rename_i hc
    simp only [Option.some.injEq] at h
    subst h
    refine ⟨_,?_,RVal.vv rfl⟩
    simp only [Instr.sliceAt,Sem.run_bind,run_underlying hu,Result.andThen_ok,Instr.slice,Option.isSome_none,Bool.false_eq_true,if_false,Instr.sliceBounds,Sem.run_pure,Sem.run_ite]
    rcases bndV_ok h2 e2 with ⟨rfl,rfl⟩ | ⟨k,m,rfl,hm,hn⟩
    ·rcases bndV_ok h1 e1 with ⟨rfl,rfl⟩ | ⟨k,m,rfl,hm,hn⟩
     ·simp [Sem.run_bind]
     ·simp [Sem.run_bind,run_bound (P:=P) (w:=w) rfl hm hn hc.1]
    ·rcases bndV_ok h1 e1 with ⟨rfl,rfl⟩ | ⟨k',m',rfl,hm',hn'⟩
     ·simp [Sem.run_bind,run_bound (P:=P) (w:=w) rfl hm hn hc.2]
     ·simp [Sem.run_bind,run_bound (P:=P) (w:=w) rfl hm hn hc.2,run_bound (P:=P) (w:=w) rfl hm' hn' hc.1]
   ·cases h
  ·cases h
 ·rename_i dg ht
  have ok:=hT t (by rw [ht];simp)
  rw [ht] at ok
  obtain ⟨dd,hu,hd⟩:=ok.desc
  simp only [Ty.isDesc] at hd
  obtain ⟨e,rfl,he8,hsz⟩:=hd
  obtain ⟨ji,hji,hjs⟩:=Option.map_eq_some_iff.1 hsz
  unfold RVal RV at hx
  obtain ⟨b,o,us,he,hb,hi,hd,hc⟩:=hx
  simp only [List.cons.injEq,and_true] at he
  subst he
  unfold RV at hd
  subst hd
  split at h
  ·rename_i l hh e1 e2
   obtain rfl:mx'=Option.none:=by rcases h3 with h3 | ⟨d,v,e,_⟩;exact h3.2;cases e
   split at h
   ·rename_i hcc
    obtain ⟨hc1,hc2⟩:=hcc
    simp only [Option.some.injEq] at h
    subst h
    have hl:((dg.l.drop l).take (hh - l)).length=hh - l:=by rw [List.length_take,List.length_drop,dg.h];omega
    refine ⟨.slice (some (if 32=l then ⟨b,o,Option.none⟩ else (⟨b,o,Option.none⟩:Addr).add (l*1))) (hh - l) (32 - l),?_,?_⟩
    ·have hs:∀ (x:Nat) (c:BoundsCode),True:=fun _ _=>trivial
     simp only [Instr.sliceAt,Sem.run_bind,run_underlying hu,Result.andThen_ok,Instr.sureAddr,Sem.run_pure,Instr.sliceBounds,Bool.false_eq_true,if_false]
     rcases bndV_ok h2 e2 with ⟨rfl,rfl⟩ | ⟨k,m',rfl,hm',hn⟩
     ·rcases bndV_ok h1 e1 with ⟨rfl,rfl⟩ | ⟨k,m',rfl,hm',hn⟩
      ·simp [Sem.run_bind,sizeOf,typeInfo,hji,hjs]
      ·simp [Sem.run_bind,run_bound (P:=P) (w:=w) rfl hm' hn hc1,sizeOf,typeInfo,hji,hjs]
     ·rcases bndV_ok h1 e1 with ⟨rfl,rfl⟩ | ⟨k',m2,rfl,hm2,hn'⟩
      ·simp [Sem.run_bind,run_bound (P:=P) (w:=w) (q:=32) rfl hm' hn (by omega),sizeOf,typeInfo,hji,hjs]
      ·simp [Sem.run_bind,run_bound (P:=P) (w:=w) (q:=32) rfl hm' hn (by omega),run_bound (P:=P) (w:=w) rfl hm2 hn' hc1,sizeOf,typeInfo,hji,hjs]
    ·unfold RVal RV
     refine ⟨_,_,_,rfl,by rw [List.length_map,hl],by omega,trivial,?_⟩
     by_cases hl32:32=l
     ·subst hl32
      have:hh=32:=by omega
      subst this
      refine .inr <| .inl ⟨.inl rfl,?_,by simp⟩
      rw [List.drop_of_length_le (by rw [dg.h];omega)];rfl
     ·rw [if_neg hl32]
      refine .inr <| .inr ⟨b,o+l,by rw [Nat.mul_one];unfold Addr.add;split <;> simp_all,hb,?_,⟨1,fun e he=>?_⟩,?_⟩
      ·rw [sizes_const _ 1 (fun e he=>by obtain ⟨u,_,rfl⟩:=List.mem_map.1 he;rfl),List.length_map,hl]
       refine I_le hi ?_
       have:(D.dg dg).size=32:=rfl
       omega
      ·obtain ⟨u,_,rfl⟩:=List.mem_map.1 he;rfl
      ·refine REs.of_u8 _ (o+l) (fun j v hj=>?_)
       rw [Nat.add_assoc]
       refine hc (l+j) v ?_
       rw [bC,List.map_take,List.map_drop,List.getElem?_take] at hj
       split at hj
       ·rw [List.getElem?_drop] at hj;exact hj
       ·cases hj
   ·cases h
  ·cases h
 ·rename_i e tg es ht
  have ok:=hT t (by rw [ht];simp)
  rw [ht] at ok
  obtain ⟨dd,hu,hd⟩:=ok.desc
  simp only [Ty.isDesc] at hd
  subst hd
  unfold RVal RV at hx
  obtain ⟨a,m,c,he,hm,hcap,htg,hx⟩:=hx
  simp only [List.cons.injEq,and_true] at he
  subst he
  split at h
  ·rename_i l hh e1 e2
   split at h
   ·rename_i hc
    obtain ⟨hc1,hc2,hk,hz⟩:=hc
    have oke:=hT e (Ty.known_ne hk)
    have hres:∀ M,hh≤M→M≤c→∀ tg',(tg'=.none∨(tg'=.full∧M=hh))→RVal w S.I (.sl tg' ((es.drop l).take (hh - l))) (.slice (if M=l then a else a.map (·.add (l*(T e).zero.size))) (hh - l) (M - l)):=by
     intro M hM hMc tg' htg'
     have hlen:((es.drop l).take (hh - l)).length=hh - l:=by rw [List.length_take,List.length_drop];omega
     have hz':∀ d∈(es.drop l).take (hh - l),d.size=(T e).zero.size:=fun d hd=>hz d (List.mem_of_mem_drop (List.mem_of_mem_take hd))
     unfold RVal RV
     refine ⟨_,_,_,rfl,hlen.symm,by omega,?_,?_⟩
     ·rcases htg' with rfl | ⟨rfl,rfl⟩
      ·trivial
      ·show _=_;rw [hlen]
     ·rcases hx with ⟨rfl,rfl,rfl⟩ | ⟨-,rfl,ha⟩ | ⟨b,o,rfl,hb,hi,-,hr⟩
      ·refine .inl ⟨by simp,by simp,by omega⟩
      ·refine .inr <| .inl ⟨htg'.imp id (·.1),by simp,?_⟩
       split
       ·exact ha
       ·intro h;exact ha (Option.map_eq_none_iff.1 h)
      ·rw [sizes_const es _ hz] at hi
       have hsz:D.sizes ((es.drop l).take (hh - l))=(hh - l)*(T e).zero.size:=by rw [sizes_const _ _ hz',hlen]
       by_cases hMl:M=l
       ·have:hh=l:=by omega
        subst this
        refine .inr <| .inr ⟨b,o,by simp [hMl],hb,I_le hi (by rw [hsz];simp),⟨_,hz'⟩,?_⟩
        simp [REs]
       ·refine .inr <| .inr ⟨b,o+l*(T e).zero.size,?_,hb,I_le hi ?_,⟨_,hz'⟩,(REs.drop l o es _ hz (by omega) hr).take _⟩
        ·simp only [hMl,if_false,Option.map_some,Option.some.injEq]
         unfold Addr.add
         split <;> simp_all
        ·rw [hsz]
         have:hh*(T e).zero.size≤es.length*(T e).zero.size:=Nat.mul_le_mul_right _ hc2
         have h5:hh*(T e).zero.size=(hh - l)*(T e).zero.size+l*(T e).zero.size:=by rw [← Nat.add_mul];congr 1;omega
         omega
    split at h
    ·simp only [Option.some.injEq] at h
     subst h
     obtain rfl:mx'=Option.none:=by rcases h3 with h3 | ⟨d,v,e,_⟩;exact h3.2;cases e
     refine ⟨_,?_,hres c (by omega) (Nat.le_refl _) .none (.inl rfl)⟩
     simp only [Instr.sliceAt,Sem.run_bind,run_underlying hu,Result.andThen_ok,Instr.slice,Instr.sliceBounds,Sem.run_pure]
     rcases bndV_ok h2 e2 with ⟨rfl,rfl⟩ | ⟨k,m',rfl,hm',hn⟩
     ·rcases bndV_ok h1 e1 with ⟨rfl,rfl⟩ | ⟨k,m',rfl,hm',hn⟩
      ·subst hm;simp [Sem.run_bind,oke.run_size]
      ·subst hm;simp [Sem.run_bind,run_bound (P:=P) (w:=w) rfl hm' hn hc1,oke.run_size]
     ·rcases bndV_ok h1 e1 with ⟨rfl,rfl⟩ | ⟨k',m2,rfl,hm2,hn'⟩
      ·simp [Sem.run_bind,run_bound (P:=P) (w:=w) (q:=c) rfl hm' hn (by omega),oke.run_size]
      ·simp [Sem.run_bind,run_bound (P:=P) (w:=w) (q:=c) rfl hm' hn (by omega),run_bound (P:=P) (w:=w) rfl hm2 hn' hc1,oke.run_size]
    ·rename_i m0
     split at h
     ·rename_i hmm
      simp only [Option.some.injEq] at h
      subst h
      obtain ⟨hm1,hhi⟩:=hmm
      rcases bndV_ok h3 hm1 with ⟨rfl,-⟩ | ⟨k3,m3,rfl,hm3,hn3⟩
      ·rcases h3 with ⟨e,_⟩ | ⟨_,_,_,e,_⟩ <;> cases e
      rcases bndV_ok h2 e2 with ⟨rfl,rfl⟩ | ⟨k,m',rfl,hm',hn⟩
      ·rcases h2 with ⟨e,_⟩ | ⟨_,_,_,e,_⟩
       ·exact absurd e hhi
       ·cases e
      refine ⟨_,?_,hres hh (Nat.le_refl _) (by omega) .full (.inr ⟨rfl,rfl⟩)⟩
      simp only [Instr.sliceAt,Sem.run_bind,run_underlying hu,Result.andThen_ok,Instr.slice,Instr.sliceBounds,Sem.run_pure]
      rcases bndV_ok h1 e1 with ⟨rfl,rfl⟩ | ⟨k',m2,rfl,hm2,hn'⟩
      ·simp [Sem.run_bind,run_bound (P:=P) (w:=w) (q:=c) rfl hm3 hn3 (by omega),run_bound (P:=P) (w:=w) rfl hm' hn (Nat.le_refl _),oke.run_size]
      ·simp [Sem.run_bind,run_bound (P:=P) (w:=w) (q:=c) rfl hm3 hn3 (by omega),run_bound (P:=P) (w:=w) rfl hm' hn (Nat.le_refl _),run_bound (P:=P) (w:=w) rfl hm2 hn' hc1,oke.run_size]
     ·cases h
   ·cases h
  ·cases h
 ·cases h
end


structure Prg (P:Program) (T:TypeId→Ty):Prop where
 ty:TysOk P T
 dig:∀ t,T t=.dig→P.eqGuardType P.depth t=false
 mixed:P.follows .mixedOrders=true
 cmp:∀ t ks,cmpTys t=some ks→CmpOk P t ks

def valsO (A:List D):List Operand→Option (List Value)
 | []=>some []
 | x::xs=>
  match evalO A x,valsO A xs with
  | .v y,some ys=>some (y::ys)
  | _,_=>Option.none

def lenV (ty:Ty) (x:D):Option D:=
 match ty,x with
 | .str,.v (.string s)=>some (.v (.int .i64 (s.size:Nat)))
 | .slice _,.sl _ es=>some (.v (.int .i64 (es.length:Nat)))
 | _,_=>Option.none

def callV (T:TypeId→Ty) (c:Callee) (ds:List D) (ts:List TypeId):Option D:=
 match c,ds,ts with
 | .builtin .len,[x],[t]=>lenV (T t) x
 | .builtin .max,[x,y],_=>(match x,y with | .v (.int k a),.v (.int _ b)=>some (.v (.int k (if b > a then b else a))) | _,_=>Option.none)
 | _,_,_=>Option.none
theorem map_two {α β:Type} {f:α→β} {l:List α} {x y:β} (h:l.map f=[x,y]):∃ a b,l=[a,b]∧f a=x∧f b=y:=by
 match l,h with
 | [a,b],h=>simp only [List.map_cons,List.map_nil,List.cons.injEq,and_true] at h;exact ⟨a,b,rfl,h.1,h.2⟩
theorem map_one {α β:Type} {f:α→β} {l:List α} {x:β} (h:l.map f=[x]):∃ a,l=[a]∧f a=x:=by
 match l,h with
 | [a],h=>simp only [List.map_cons,List.map_nil,List.cons.injEq,and_true] at h;exact ⟨a,rfl,h⟩

def isConstO:Operand→Bool
 | .const _=>true
 | _=>false

def fnV (fn:Fn) (f:List Operand) (cs:List D):Option D:=
 match fn,f with
 | .func k,[]=>if (cs.all fun d=>d.lies && !d.isAgg)=true then some (.fn k cs) else Option.none
 | _,_=>Option.none

def nilV (x:D):Option D:=
 match x with
 | .pt d=>some (.pt d)
 | .fn f cs=>some (.fn f cs)
 | .v (.pointer (some a))=>some (.v (.pointer (some a)))
 | .v (.func (.func f) x y)=>some (.v (.func (.func f) x y))
 | .v (.iface t v)=>some (.v (.iface t v))
 | _=>Option.none

def ifaceV (ty:Ty) (t:TypeId) (x:D):Option D:=
 match ty,x with
 | .iface,_=>Option.none
 | .other,_=>Option.none
 | _,.v y=>some (.v (.iface t y))
 | _,.agg []=>some (.v (.iface t (.agg #[])))
 | _,_=>Option.none

def dIf:Value→D
 | .agg cs=>if cs.size=0 then .agg [] else .any
 | x=>dOf x
def typeV (ty:Ty) (u:TypeId) (ok:Bool) (x:D):Option D:=
 match ty,ok,x with
 | .iface,_,_=>Option.none
 | .other,_,_=>Option.none
 | _,true,.v (.iface t v)=>if t=u then some (.tup [dIf v,.v (.bool true)]) else Option.none
 | _,_,_=>Option.none

noncomputable def evalV (T:TypeId→Ty) (A:List D) (bk:List (Nat×TypeId×D)) (op:Op):Option D:=
 match op with
 | .move x=>some (evalO A x)
 | .assign x=>some (evalO A x)
 | .pick c a b=>(match evalO A c with | .v (.bool t)=>some (if t=true then evalO A a else evalO A b) | _=>Option.none)
 | .build t ps=>buildV (T t) (ps.toList.map fun p=>(p.1,evalO A p.2))
 | .load t x=>loadV T bk t (evalO A x)
 | .nilCheck x=>nilV (evalO A x)
 | .binOp op t x y _=>(match op,T t,evalO A x,evalO A y with
  | .eql,.iface,.v .nilIface,.v .nilIface=>if isConstO x=true∨isConstO y=true then some (.v (.bool true)) else Option.none
  | .neq,.iface,.v .nilIface,.v .nilIface=>if isConstO x=true∨isConstO y=true then some (.v (.bool false)) else Option.none
  | op,_,dx,dy=>binV T op t dx dy)
 | .unOp op _ x=>(match op,evalO A x with
  | .not,.v (.bool b)=>some (.v (.bool (!b)))
  | .neg,.v (.int k n)=>some (.v (.int k (k.wrap (0 - n))))
  | _,_=>Option.none)
 | .convert a b x=>convV T (T a) (T b) (evalO A x)
 | .makeInterface t x=>ifaceV (T t) t (evalO A x)
 | .makeFunc fn f c=>(match valsO A f.toList,valsO A c.toList with | some f',some c'=>some (.v (.func fn f'.toArray c'.toArray)) | _,_=>fnV fn f.toList (c.toList.map (evalO A)))
 | .slice t x lo hi mx=>sliceV T t (evalO A x) (lo.map (evalO A)) (hi.map (evalO A)) (mx.map (evalO A))
 | .fieldAddr t x k=>fieldAddrV (T t) (evalO A x) k
 | .field t x k=>fieldV (T t) (evalO A x) k
 | .indexAddr t x i=>indexAddrV T t (evalO A x) (evalO A i)
 | .index t x i=>indexV (T t) (evalO A x) (evalO A i)
 | .extract x i=>(match evalO A x with | .tup ds=>ds[i]? | _=>Option.none)
 | .call c=>callV T c.callee (c.args.toList.map (evalO A)) c.argTypes.toList
 | .typeAssert x _ u ok=>typeV (T u) u ok (evalO A x)
 | _=>Option.none

section
variable {P : Program} {T : TypeId → Ty} {w : World} {S : Sto} {A : List D} {a : Act}

theorem valsO_ok {I:Nat→Nat→Prop} (hA:ActAt w I A a):∀ {xs:List Operand} {ys:List Value},valsO A xs=some ys→xs.map a.eval=ys
 | [],ys,h=>by simp only [valsO,Option.some.injEq] at h;subst h;rfl
 | x::xs,ys,h=>by
  unfold valsO at h
  split at h
  ·rename_i y ys' h1 h2
   simp only [Option.some.injEq] at h
   subst h
   have:=evalO_ok hA x
   rw [h1] at this
   unfold RVal at this
   rw [List.map_cons,this.1,valsO_ok hA h2]
  ·cases h

theorem RVals.get {I:Nat→Nat→Prop}:∀ {ds:List D} {xs:List Value} {i:Nat} {d:D},RVals w I ds xs→ds[i]?=some d→∃ x,xs[i]?=some x∧RVal w I d x
 | [],xs,i,d,h,hi=>by simp at hi
 | e::ds,xs,0,d,h,hi=>by
  simp only [List.getElem?_cons_zero,Option.some.injEq] at hi
  subst hi
  unfold RVals at h
  obtain ⟨y,ys,rfl,h1,_⟩:=h
  exact ⟨y,rfl,h1⟩
 | e::ds,xs,i+1,d,h,hi=>by
  simp only [List.getElem?_cons_succ] at hi
  unfold RVals at h
  obtain ⟨y,ys,rfl,_,h2⟩:=h
  obtain ⟨x,h3,h4⟩:=RVals.get h2 hi
  exact ⟨x,by simpa using h3,h4⟩

theorem Yields.op {s:Sem Value} {d:D} (h:Yields P w S.I s d):∃ y,(do pure (Next.value (← s)):Sem Next).run P w=.ok (.value y) w∧RVal w S.I d y:=by
 obtain ⟨y,h1,h2⟩:=h
 exact ⟨y,by rw [Sem.run_bind,h1];rfl,h2⟩

theorem lenV_ok (hT:TysOk P T) {t ty:TypeId} {x d:D} {y:Value} {ats:Array TypeId} (hats:ats=#[t]) (h:lenV (T t) x=some d) (hx:RVal w S.I x y):Yields P w S.I (Builtin.len_ ats ty #[y]) d:=by
 subst hats
 unfold lenV at h
 split at h
 ·rename_i s e
  have ok:=hT t (by rw [e];simp)
  rw [e] at ok
  obtain ⟨dd,h1,h2⟩:=ok.desc
  simp only [Ty.isDesc] at h2
  subst h2
  unfold RVal at hx
  obtain ⟨rfl,-⟩:=hx
  simp only [Option.some.injEq] at h
  subst h
  exact ⟨_,by simp [Builtin.len_,Sem.run_bind,run_underlying h1,goInt],RVal.vv rfl⟩
 ·rename_i s e
  have ok:=hT t (by rw [e];simp)
  rw [e] at ok
  obtain ⟨dd,h1,h2⟩:=ok.desc
  simp only [Ty.isDesc] at h2
  subst h2
  unfold RVal RV at hx
  obtain ⟨b,n,c,he,rfl,-⟩:=hx
  simp only [List.cons.injEq,and_true] at he
  subst he
  simp only [Option.some.injEq] at h
  subst h
  exact ⟨_,by simp [Builtin.len_,Sem.run_bind,run_underlying h1,goInt],RVal.vv rfl⟩
 ·cases h

theorem eqV_shape {I:Nat→Nat→Prop} {ty:Ty} {x y:D} {r:Bool} (h:eqV ty x y=some r) {u v:Value} (hx:RVal w I x u) (hy:RVal w I y v) (t:TypeId) :
  binOp .eql t u v=(do pure (.bool (← Op.equal t u v)))∧binOp .neq t u v=(do pure (.bool (!(← Op.equal t u v))))∧(u≠.nilIface∨v≠.nilIface)∧((∃ p q,u=.agg p∧v=.agg q)→ty=.dig):=by
 unfold eqV at h
 split at h
 ·unfold RVal at hx hy
  obtain ⟨rfl,-⟩:=hx
  obtain ⟨rfl,-⟩:=hy
  exact ⟨rfl,rfl,by simp,by simp⟩
 ·unfold RVal at hx hy
  subst hx hy
  exact ⟨rfl,rfl,by simp,fun _=>rfl⟩
 ·unfold RVal at hx hy
  obtain ⟨rfl,-⟩:=hx
  obtain ⟨rfl,-⟩:=hy
  exact ⟨rfl,rfl,by simp,by simp⟩
 ·unfold RVal at hx hy
  obtain ⟨rfl,-⟩:=hx
  obtain ⟨rfl,-⟩:=hy
  exact ⟨rfl,rfl,by simp,by simp⟩
 ·unfold RVal at hx hy
  unfold RV at hx
  obtain ⟨b,o,ys,hx,-⟩:=hx
  simp only [List.cons.injEq,and_true] at hx
  obtain ⟨rfl,-⟩:=hy
  subst hx
  exact ⟨rfl,rfl,by simp,by simp⟩
 ·unfold RVal at hx hy
  unfold RV at hy
  obtain ⟨b,o,ys,hy,-⟩:=hy
  simp only [List.cons.injEq,and_true] at hy
  obtain ⟨rfl,-⟩:=hx
  subst hy
  exact ⟨rfl,rfl,by simp,by simp⟩
 ·unfold RVal at hx hy
  obtain ⟨rfl,-⟩:=hx
  obtain ⟨rfl,-⟩:=hy
  exact ⟨rfl,rfl,by simp,by simp⟩
 ·unfold RVal at hx hy
  obtain ⟨rfl,-⟩:=hx
  obtain ⟨rfl,-⟩:=hy
  exact ⟨rfl,rfl,by simp,by simp⟩
 ·unfold RVal RV at hx hy
  obtain ⟨b,o,ys,hy,-⟩:=hy
  simp only [List.cons.injEq,and_true] at hy
  obtain ⟨b,o,ys,hx,-⟩:=hx
  simp only [List.cons.injEq,and_true] at hx
  subst hy hx
  exact ⟨rfl,rfl,by simp,by simp⟩
 ·unfold RVal RV at hx hy
  obtain ⟨b,o,ys,hy,-⟩:=hy
  simp only [List.cons.injEq,and_true] at hy
  obtain ⟨b,o,ys,hx,-⟩:=hx
  simp only [List.cons.injEq,and_true] at hx
  subst hy hx
  exact ⟨rfl,rfl,by simp,by simp⟩
 ·unfold RVal at hx hy
  obtain ⟨rfl,-⟩:=hx
  obtain ⟨rfl,-⟩:=hy
  exact ⟨rfl,rfl,by simp,by simp⟩
 ·unfold RVal at hx hy
  unfold RV at hx
  obtain ⟨xs,hx,-⟩:=hx
  simp only [List.cons.injEq,and_true] at hx
  obtain ⟨rfl,-⟩:=hy
  subst hx
  exact ⟨rfl,rfl,by simp,by simp⟩
 ·unfold RVal at hx hy
  obtain ⟨rfl,-⟩:=hx
  obtain ⟨rfl,-⟩:=hy
  exact ⟨rfl,rfl,by simp,by simp⟩
 ·cases h

theorem guard_plain {op:BinOp} {t:TypeId} {u v:Value} {ox oy:Operand} (h1:(∃ p q,u=.agg p∧v=.agg q)→P.eqGuardType P.depth t=false) (h2:u≠.nilIface∨v≠.nilIface):(eqGuard op t ox oy u v).run P w=.ok () w:=by
 have key:∀ q:BinOp,(q=.eql∨q=.neq)→(eqGuard q t ox oy u v).run P w=.ok () w:=by
  intro q hq
  cases u <;> cases v <;> first
   | exact absurd rfl (h2.resolve_left (fun h=>h rfl))
   | (rcases hq with rfl | rfl <;> rfl)
   | (have h3:=h1 ⟨_,_,rfl,rfl⟩;rcases hq with rfl | rfl <;> simp [eqGuard,h3])
 cases op <;> first | exact key _ (.inl rfl) | exact key _ (.inr rfl) | rfl

theorem binV_ok (hP:Prg P T) {op:BinOp} {t:TypeId} {x y d:D} {u v:Value} {ox oy:Operand} (h:binV T op t x y=some d) (hx:RVal w S.I x u) (hy:RVal w S.I y v) :
  Yields P w S.I (do eqGuard op t ox oy u v;binOp op t u v) d:=by
 have hg:∀ s:Sem Value,((eqGuard op t ox oy u v).run P w=.ok () w)→Yields P w S.I s d→Yields P w S.I (do eqGuard op t ox oy u v;s) d:=by
  intro s h1 ⟨z,h2,h3⟩
  exact ⟨z,by rw [Sem.run_bind,h1,Result.andThen_ok,h2],h3⟩
 unfold binV at h
 split at h
 ·cases h
 ·cases h
 ·rename_i op k a k' b h1 h2
  unfold RVal at hx hy
  obtain ⟨rfl,-⟩:=hx
  obtain ⟨rfl,-⟩:=hy
  split at h
  ·rename_i e
   subst e
   exact hg _ (guard_plain (by simp) (by simp)) (intV_ok h ⟨fun e=>h1 e,fun e=>h2 e⟩)
  ·cases h
 ·rename_i op a b h1 h2
  unfold RVal at hx hy
  obtain ⟨rfl,-⟩:=hx
  obtain ⟨rfl,-⟩:=hy
  exact hg _ (guard_plain (by simp) (by simp)) (strV_ok h)
 ·split at h
  ·rename_i ks hk
   obtain ⟨r,hq,h⟩:=Option.map_eq_some_iff.1 h
   subst h
   have ok:=hP.cmp t ks hk
   have he:=eqS_ok ok hq hx hy
   unfold RVal at hx hy
   obtain ⟨us,rfl,hx⟩:=hx
   obtain ⟨vs,rfl,hy⟩:=hy
   refine hg _ (guard_plain (fun _=>ok.guard) (by simp)) ⟨.bool r,?_,RVal.vv rfl⟩
   rw [show binOp .eql t (.agg us.toArray) (.agg vs.toArray)=(do pure (.bool (← Op.equal t (.agg us.toArray) (.agg vs.toArray)))) from rfl,Sem.run_bind,he];rfl
  ·cases h
 ·split at h
  ·rename_i ks hk
   obtain ⟨r,hq,h⟩:=Option.map_eq_some_iff.1 h
   subst h
   have ok:=hP.cmp t ks hk
   have he:=eqS_ok ok hq hx hy
   unfold RVal at hx hy
   obtain ⟨us,rfl,hx⟩:=hx
   obtain ⟨vs,rfl,hy⟩:=hy
   refine hg _ (guard_plain (fun _=>ok.guard) (by simp)) ⟨.bool (!r),?_,RVal.vv rfl⟩
   rw [show binOp .neq t (.agg us.toArray) (.agg vs.toArray)=(do pure (.bool (!(← Op.equal t (.agg us.toArray) (.agg vs.toArray))))) from rfl,Sem.run_bind,he];rfl
  ·cases h
 ·obtain ⟨r,hq,h⟩:=Option.map_eq_some_iff.1 h
  ·subst h
   have he:=eqV_ok hP.ty hq hx hy
   obtain ⟨e1,e2,e3,e4⟩:=eqV_shape hq hx hy t
   refine hg _ (guard_plain (fun h=>hP.dig t (e4 h)) e3) ⟨.bool r,?_,RVal.vv rfl⟩
   rw [e1,Sem.run_bind,he];rfl
 ·obtain ⟨r,hq,h⟩:=Option.map_eq_some_iff.1 h
  ·subst h
   have he:=eqV_ok hP.ty hq hx hy
   obtain ⟨e1,e2,e3,e4⟩:=eqV_shape hq hx hy t
   refine hg _ (guard_plain (fun h=>hP.dig t (e4 h)) e3) ⟨.bool (!r),?_,RVal.vv rfl⟩
   rw [e2,Sem.run_bind,he];rfl
 ·cases h

theorem opt_map_ok {I:Nat→Nat→Prop} (hA:ActAt w I A a) (o:Option Operand):(o.map (evalO A)=Option.none∧o.map a.eval=Option.none)∨∃ d v,o.map (evalO A)=some d∧o.map a.eval=some v∧RVal w I d v:=by
 cases o with
 | none=>exact .inl ⟨rfl,rfl⟩
 | some x=>exact .inr ⟨_,_,rfl,rfl,evalO_ok hA x⟩

theorem evalV_ok (hP : Prg P T) (hS : StAt w S) (hA : ActAt w S.I A a) {o : Oper} {d : D} (h : evalV T A S.bk o.op = some d) : ∃ y, (execOp a.eval o).run P w = .ok (.value y) w ∧ RVal w S.I d y := by
  obtain ⟨dst, op, type, pos, after, guard⟩ := o
  simp only at h
  unfold evalV at h
  split at h
  · simp only [Option.some.injEq] at h; subst h; exact ⟨_, rfl, evalO_ok hA _⟩
  · simp only [Option.some.injEq] at h; subst h; exact ⟨_, rfl, evalO_ok hA _⟩
  · rename_i c x y
    split at h
    · rename_i t e
      simp only [Option.some.injEq] at h
      subst h
      have hc := evalO_ok hA c
      rw [e] at hc
      unfold RVal at hc
      obtain ⟨hc, -⟩ := hc
      refine ⟨if t = true then a.eval x else a.eval y, by simp [execOp, hc, Sem.run_bind, asBool], ?_⟩
      cases t
      · exact evalO_ok hA y
      · exact evalO_ok hA x
    · cases h
  · rename_i t ps
    have := buildV_ok (P := P) (w := w) (I := S.I) hP.ty h (ps.toList.map fun p => (p.1, a.eval p.2)) (by simp) (fun j p v hp hv => by
      simp only [List.getElem?_map, Option.map_eq_some_iff] at hp hv
      obtain ⟨q, hq, rfl⟩ := hp
      obtain ⟨q', hq', rfl⟩ := hv
      rw [hq] at hq'
      simp only [Option.some.injEq] at hq'
      subst hq'
      exact ⟨rfl, evalO_ok hA _⟩)
    have h2 := this.op
    have e : (List.map (fun p => (p.1, a.eval p.2)) ps.toList).toArray = ps.map fun (p : Nat × Operand) => (p.1, a.eval p.2) := by apply Array.ext'; simp
    rw [e] at h2
    exact h2
  · exact (loadV_ok hP.ty hS h (evalO_ok hA _)).op
  · rename_i x
    have hx := evalO_ok hA x
    unfold nilV at h
    split at h
    · rename_i d e
      rw [e] at hx
      simp only [Option.some.injEq] at h
      subst h
      refine ⟨a.eval x, ?_, hx⟩
      unfold RVal RV at hx
      obtain ⟨b, o, ys, hx, -⟩ := hx
      simp only [List.cons.injEq, and_true] at hx
      simp only [execOp, hx]
      rfl
    · rename_i f cs e
      rw [e] at hx
      simp only [Option.some.injEq] at h
      subst h
      refine ⟨a.eval x, ?_, hx⟩
      unfold RVal RV at hx
      obtain ⟨xs, hx, -⟩ := hx
      simp only [List.cons.injEq, and_true] at hx
      simp only [execOp, hx]
      rfl
    all_goals first
      | (rename_i e
         rw [e] at hx
         simp only [Option.some.injEq] at h
         subst h
         refine ⟨a.eval x, ?_, hx⟩
         unfold RVal at hx
         obtain ⟨hx, -⟩ := hx
         simp only [execOp, hx]
         rfl)
      | (cases h; done)
  · rename_i op t x y t2
    have hx := evalO_ok hA x
    have hy := evalO_ok hA y
    split at h
    · rename_i ht ex ey
      rw [ex] at hx
      rw [ey] at hy
      unfold RVal at hx hy
      obtain ⟨hx, -⟩ := hx
      obtain ⟨hy, -⟩ := hy
      split at h
      · rename_i hc
        simp only [Option.some.injEq] at h
        subst h
        have ok := hP.ty t (by rw [ht]; simp)
        rw [ht] at ok
        obtain ⟨dd, h1, h2⟩ := ok.desc
        simp only [Ty.isDesc] at h2
        obtain ⟨m, rfl⟩ := h2
        refine ⟨_, ?_, RVal.vv rfl⟩
        have hg : (eqGuard .eql t x y .nilIface .nilIface).run P w = .ok () w := by
          rcases hc with hc | hc
          · cases x <;> first | (simp [eqGuard]; done) | cases hc
          · cases y <;> first | (simp [eqGuard]; done) | cases hc
        have he : (Op.equal t .nilIface .nilIface).run P w = .ok true w := by
          suffices key : ∀ n, (Op.equalIn (n + 1) t .nilIface .nilIface).run P w = .ok true w from key 9999
          intro n
          rw [Op.equalIn, Sem.run_bind, run_underlying h1, Result.andThen_ok]; rfl
        simp only [execOp, hx, hy, Sem.run_bind, hg, Result.andThen_ok]
        rw [show binOp .eql t .nilIface .nilIface = (do pure (.bool (← Op.equal t .nilIface .nilIface))) from rfl, Sem.run_bind, he]
        rfl
      · cases h
    · rename_i ht ex ey
      rw [ex] at hx
      rw [ey] at hy
      unfold RVal at hx hy
      obtain ⟨hx, -⟩ := hx
      obtain ⟨hy, -⟩ := hy
      split at h
      · rename_i hc
        simp only [Option.some.injEq] at h
        subst h
        have ok := hP.ty t (by rw [ht]; simp)
        rw [ht] at ok
        obtain ⟨dd, h1, h2⟩ := ok.desc
        simp only [Ty.isDesc] at h2
        obtain ⟨m, rfl⟩ := h2
        refine ⟨_, ?_, RVal.vv rfl⟩
        have hg : (eqGuard .neq t x y .nilIface .nilIface).run P w = .ok () w := by
          rcases hc with hc | hc
          · cases x <;> first | (simp [eqGuard]; done) | cases hc
          · cases y <;> first | (simp [eqGuard]; done) | cases hc
        have he : (Op.equal t .nilIface .nilIface).run P w = .ok true w := by
          suffices key : ∀ n, (Op.equalIn (n + 1) t .nilIface .nilIface).run P w = .ok true w from key 9999
          intro n
          rw [Op.equalIn, Sem.run_bind, run_underlying h1, Result.andThen_ok]; rfl
        simp only [execOp, hx, hy, Sem.run_bind, hg, Result.andThen_ok]
        rw [show binOp .neq t .nilIface .nilIface = (do pure (.bool (!(← Op.equal t .nilIface .nilIface)))) from rfl, Sem.run_bind, he]
        rfl
      · cases h
    · exact (binV_ok hP (ox := x) (oy := y) h hx hy).op
  · rename_i op t x
    have hx := evalO_ok hA x
    split at h
    · rename_i b e
      rw [e] at hx
      unfold RVal at hx
      obtain ⟨hx, -⟩ := hx
      simp only [Option.some.injEq] at h
      subst h
      exact ⟨_, by simp only [execOp, hx]; rfl, RVal.vv rfl⟩
    · rename_i k n e
      rw [e] at hx
      unfold RVal at hx
      obtain ⟨hx, -⟩ := hx
      simp only [Option.some.injEq] at h
      subst h
      exact ⟨_, by simp only [execOp, hx]; rfl, RVal.vv rfl⟩
    · cases h
  · exact (convV_ok hP.ty h (evalO_ok hA _)).op
  · rename_i t x
    have hx := evalO_ok hA x
    have key : ∀ y, (T t).known = true → (∀ e, T t ≠ e → True) → T t ≠ .iface → a.eval x = y → (execOp a.eval { dst, op := .makeInterface t x, type, pos, after, guard }).run P w = .ok (.value (.iface t y)) w := by
      intro y hk _ hi hy
      have ok := hP.ty t (Ty.known_ne hk)
      obtain ⟨dd, h1, h2⟩ := ok.desc
      have hc : P.concrete t = true := by
        unfold Program.concrete
        rw [h1]
        cases hty : T t <;> rw [hty] at h2 <;> simp only [Ty.isDesc] at h2 <;> first | (subst h2; rfl) | (obtain ⟨_, rfl, _⟩ := h2; rfl) | (obtain ⟨_, rfl⟩ := h2; first | rfl | exact absurd hty hi) | (obtain ⟨_, _, _, rfl⟩ := h2; rfl) | (rw [hty] at hk; cases hk)
      simp only [execOp, hy, Sem.run_bind, run_makeInterface w t y hc]
      rfl
    unfold ifaceV at h
    split at h
    · cases h
    · cases h
    · rename_i y e h1 h2
      rw [e] at hx
      unfold RVal at hx
      obtain ⟨hx, -⟩ := hx
      simp only [Option.some.injEq] at h
      subst h
      exact ⟨_, key y (by cases hty : T t <;> first | rfl | exact absurd hty h2) (fun _ _ => trivial) h1 hx, RVal.vv rfl⟩
    · rename_i e h1 h2
      rw [e] at hx
      unfold RVal RVs at hx
      obtain ⟨us, hx, rfl⟩ := hx
      simp only [Option.some.injEq] at h
      subst h
      exact ⟨_, key (.agg #[]) (by cases hty : T t <;> first | rfl | exact absurd hty h2) (fun _ _ => trivial) h1 hx, RVal.vv rfl⟩
    · cases h
  · rename_i fn f c
    split at h
    · rename_i f' c' h1 h2
      simp only [Option.some.injEq] at h
      subst h
      have e1 := valsO_ok hA h1
      have e2 := valsO_ok hA h2
      refine ⟨_, ?_, RVal.vv rfl⟩
      have e3 : f.map a.eval = f'.toArray := by apply Array.ext'; simpa using e1
      have e4 : c.map a.eval = c'.toArray := by apply Array.ext'; simpa using e2
      simp only [execOp, e3, e4]
      rfl
    · unfold fnV at h
      split at h
      · rename_i k hf
        split at h
        · rename_i hall
          simp only [Option.some.injEq] at h
          subst h
          have hf' : f.map a.eval = #[] := by apply Array.ext'; simp [hf]
          refine ⟨_, by simp only [execOp, hf']; rfl, ?_⟩
          unfold RVal RV
          refine ⟨c.toList.map a.eval, by congr 1; congr 1; apply Array.ext'; simp, ?_⟩
          have key : ∀ l : List Operand, ((l.map (evalO A)).all fun d => d.lies && !d.isAgg) = true → RCs w S.I (l.map (evalO A)) (l.map a.eval) := by
            intro l
            induction l with
            | nil => intro _; simp only [List.map_nil]; unfold RCs; rfl
            | cons o l ih =>
              intro h
              simp only [List.map_cons, List.all_cons, Bool.and_eq_true, Bool.not_eq_true'] at h ⊢
              unfold RCs
              exact ⟨_, _, rfl, h.1.2, RCs.one (evalO_ok hA o) h.1.2 h.1.1, ih (by simpa using h.2)⟩
          exact key _ hall
        · cases h
      · cases h
  · rename_i t x lo hi mx
    exact (sliceV_ok hP.ty h (evalO_ok hA x) (opt_map_ok hA lo) (opt_map_ok hA hi) (opt_map_ok hA mx)).op
  · exact (fieldAddrV_ok hP.ty h (evalO_ok hA _)).op
  · exact (fieldV_ok hP.ty h (evalO_ok hA _)).op
  · exact (indexAddrV_ok hP.ty h (evalO_ok hA _) (evalO_ok hA _)).op
  · exact (indexV_ok hP.ty h (evalO_ok hA _) (evalO_ok hA _)).op
  · rename_i x i
    split at h
    · rename_i ds e
      have hx := evalO_ok hA x
      rw [e] at hx
      unfold RVal at hx
      obtain ⟨xs, hx, hr⟩ := hx
      obtain ⟨y, h1, h2⟩ := hr.get h
      exact ⟨y, by simp [execOp, hx, Instr.extract, h1], h2⟩
    · cases h
  · rename_i c
    obtain ⟨callee, args, ats⟩ := c
    obtain ⟨args⟩ := args
    obtain ⟨ats⟩ := ats
    unfold callV at h
    simp only at h
    split at h
    · rename_i dx t e1
      obtain ⟨x, rfl, rfl⟩ := map_one e1
      obtain ⟨y, h1, h2⟩ := lenV_ok (P := P) (ty := type) hP.ty (ats := #[t]) rfl h (evalO_ok hA x)
      refine ⟨y, ?_, h2⟩
      simp only [execOp, resolve, Sem.run_bind, Sem.run_pure, Result.andThen_ok, invoke, builtin]
      simp only [List.map_toArray, List.map_cons, List.map_nil, h1, Result.andThen_ok]
    · rename_i dx dy e1
      obtain ⟨x, y, rfl, rfl, rfl⟩ := map_two e1
      have hx := evalO_ok hA x
      have hy := evalO_ok hA y
      split at h
      · rename_i k n k' m ex ey
        rw [ex] at hx
        rw [ey] at hy
        unfold RVal at hx hy
        obtain ⟨hx, -⟩ := hx
        obtain ⟨hy, -⟩ := hy
        simp only [Option.some.injEq] at h
        subst h
        refine ⟨_, ?_, RVal.vv rfl⟩
        simp only [execOp, resolve, Sem.run_bind, Sem.run_pure, Result.andThen_ok, invoke, builtin, List.map_toArray, List.map_cons, List.map_nil, hx, hy, Builtin.max_, List.foldlM_cons, List.foldlM_nil, Builtin.max2]
      · cases h
    · cases h
  · rename_i x xt u ok
    have hx := evalO_ok hA x
    unfold typeV at h
    split at h
    · cases h
    · cases h
    · rename_i t v e hn1 hn2
      rw [e] at hx
      unfold RVal at hx
      obtain ⟨hx, -⟩ := hx
      split at h
      · rename_i heq
        subst heq
        simp only [Option.some.injEq] at h
        subst h
        have ok := hP.ty t (fun h => hn2 h)
        obtain ⟨dd, h1, h2⟩ := ok.desc
        refine ⟨.tuple #[v, .bool true], ?_, ?_⟩
        · have hr : (Instr.typeAssert (.iface t v) xt t true).run P w = .ok (.tuple #[v, .bool true]) w := by
            unfold Instr.typeAssert
            simp only [Sem.run_bind, run_underlying h1, Result.andThen_ok]
            cases hty : T t <;> rw [hty] at h2 <;> simp only [Ty.isDesc] at h2 <;> first
              | exact absurd hty (fun h => hn1 h)
              | exact absurd hty (fun h => hn2 h)
              | (subst h2; simp)
              | (obtain ⟨_, rfl, _⟩ := h2; simp)
              | (obtain ⟨_, rfl⟩ := h2; simp)
              | (obtain ⟨_, _, _, rfl⟩ := h2; simp)
          simp only [execOp, hx, Sem.run_bind, hr]
          rfl
        · unfold RVal
          refine ⟨[v, .bool true], rfl, ?_⟩
          have hv : RVal w S.I (dIf v) v := by
            cases v with
            | agg cs =>
              show RVal w S.I (if cs.size = 0 then .agg [] else .any) _
              split
              · rename_i h0
                have : cs = #[] := Array.eq_empty_of_size_eq_zero h0
                subst this
                unfold RVal RVs
                exact ⟨[], rfl, rfl⟩
              · exact RVal.any
            | _ => (simp only [dIf]; exact dOf_ok _)
          unfold RVals
          refine ⟨_, _, rfl, hv, ?_⟩
          unfold RVals
          exact ⟨_, _, rfl, RVal.vv rfl, by unfold RVals; rfl⟩
      · cases h
    · cases h
  · cases h
end

end Go.Proofs.YtgjaaffheanobaaGreat