import Derived.Test.YtmkdfbelbcocpaaGreatDoorCY30
import Derived.Test.YtmkdfbelbcocpaaGreatDoorCY25
set_option linter.unusedVariables false
set_option linter.unusedSimpArgs false
namespace Go.Proofs.YtmkdfbelbcocpaaGreatDoor
open Go Go.ChangeShapes Go.WideShapes Go.ChangeAt Go.WideMaps Go.WideElems Go.RowKit
section
variable {H:Type} {enc:TypeId × Value→H} {W:World}
set_option maxRecDepth 100000 in
theorem prds_open {r:Reach} {b0:Nat} {v:Value} {d:DataW H} {p:List MemPlace} (hv:Value.okWide Tryz.prog W r b0 23 v) (h:DataW.Trod enc Tryz.prog W 0 (fun _=>true) true 23 v d p) :
  ∃ (l:List Prd) (ao:Option Addr) (n c:Nat),v = .slice ao n c∧n = l.length∧n≤9223372036854775807∧PrdsR W (fun g=>g < W.heap.size) l ao∧(∀ p∈l,RawP p)∧(∀ p∈l,LenP p):=by
 obtain ⟨a0,len,cap,rfl⟩:=okWide_slice Tryz.underlying23 hv
 obtain ⟨fuel,hf⟩:=h
 obtain ⟨ao,n,c,e4,hmc,hcm,hel⟩:=slice_elems Tryz.underlying23 cP (by decide) (show DataW.trod enc Tryz.prog W 0 (fun _=>true) true fuel 23 [.slice a0 len cap] = some (d,p) from hf)
 have hlen:n≤9223372036854775807:=Nat.le_trans hmc (Nat.le_trans hcm (by decide))
 rcases hel with h0 | ⟨g,off,n',h1,h2,h3,h4⟩
 ·exact ⟨[],ao,n,c,e4,h0,hlen,.inl rfl,by simp,by simp⟩
 ·obtain ⟨ks,hkl,hk⟩:=pick_list (α:=Prd) n (fun i p=>(∃ vs,PredC W (fun g=>g < W.heap.size) p vs∧Reads W g (off + i * 5) vs)∧RawP p∧LenP p) (fun i hi=>by
   obtain ⟨cs,y,h5,h6,h7⟩:=h4 i hi
   obtain ⟨p,hp1,hp2,hp3⟩:=prd_trod n' cs y h7
   exact ⟨p,⟨cs,hp1,h6⟩,hp2,hp3⟩)
  refine ⟨ks,ao,n,c,e4,hkl.symm,hlen,.inr ⟨g,off,h1,h2,h2,kidsC_of ks g off (fun i p hp=>(hk i p hp).1)⟩,fun q hq=>?_,fun q hq=>?_⟩
  ·obtain ⟨i,hi⟩:=List.mem_iff_getElem?.1 hq
   exact (hk i q hi).2.1
  ·obtain ⟨i,hi⟩:=List.mem_iff_getElem?.1 hq
   exact (hk i q hi).2.2
set_option maxRecDepth 100000 in
theorem strs_open {r:Reach} {b0:Nat} {v:Value} {d:DataW H} {p:List MemPlace} (hv:Value.okWide Tryz.prog W r b0 59 v) (h:DataW.Trod enc Tryz.prog W 0 (fun _=>true) true 59 v d p) :
  ∃ (l:List (List Nat)) (ao:Option Addr) (n c:Nat),v = .slice ao n c∧n = l.length∧n≤9223372036854775807∧(∀ s∈l,∀ y∈s,y < 256)∧StrsR W ao l:=by
 obtain ⟨a0,len,cap,rfl⟩:=okWide_slice Tryz.underlying59 hv
 obtain ⟨fuel,hf⟩:=h
 obtain ⟨ao,n,c,e4,hmc,hcm,hel⟩:=slice_elems Tryz.underlying59 cS (by decide) (show DataW.trod enc Tryz.prog W 0 (fun _=>true) true fuel 59 [.slice a0 len cap] = some (d,p) from hf)
 have hlen:n≤9223372036854775807:=Nat.le_trans hmc (Nat.le_trans hcm (by decide))
 rcases hel with h0 | ⟨g,off,n',h1,h2,h3,h4⟩
 ·exact ⟨[],ao,n,c,e4,h0,hlen,by simp,.inl rfl⟩
 ·obtain ⟨l,hl,hk⟩:=pick_list (α:=List Nat) n (fun i s=>(∀ y∈s,y < 256)∧W.cell? ⟨g,off + i,none⟩ = some (strV s)) (fun i hi=>by
   obtain ⟨cs,y,h5,h6,h7⟩:=h4 i hi
   match cs,h5 with
   | [c0],_ =>
    obtain ⟨s1,e1,-,z1⟩:=DataW.trod_string Tryz.underlying9 h7
    simp only [List.cons.injEq,and_true] at e1
    subst e1
    obtain ⟨l1,rfl,b1,_⟩:=strN_of_bytes s1
    have:=h6 0 _ rfl
    rw [Nat.mul_one,Nat.add_zero] at this
    exact ⟨l1,b1,this⟩)
  refine ⟨l,ao,n,c,e4,hl.symm,hlen,fun s hs=>?_,.inr ⟨g,off,h1,h2,fun j u hj=>?_⟩⟩
  ·obtain ⟨i,hi⟩:=List.mem_iff_getElem?.1 hs
   exact (hk i s hi).1
  ·rw [List.getElem?_map] at hj
   obtain ⟨s,hs,rfl⟩:=Option.map_eq_some_iff.1 hj
   exact (hk j s hs).2
set_option maxRecDepth 100000 in
theorem ints_open {r:Reach} {b0:Nat} {v:Value} {d:DataW H} {p:List MemPlace} (hv:Value.okWide Tryz.prog W r b0 60 v) (h:DataW.Trod enc Tryz.prog W 0 (fun _=>true) true 60 v d p) :
  ∃ (l:List Int) (ao:Option Addr) (n c:Nat),v = .slice ao n c∧n = l.length∧n≤9223372036854775807∧FlatR intC W ao l:=by
 obtain ⟨a0,len,cap,rfl⟩:=okWide_slice Tryz.underlying60 hv
 obtain ⟨fuel,hf⟩:=h
 obtain ⟨ao,n,c,e4,hmc,hcm,hel⟩:=slice_elems Tryz.underlying60 cI (by decide) (show DataW.trod enc Tryz.prog W 0 (fun _=>true) true fuel 60 [.slice a0 len cap] = some (d,p) from hf)
 have hlen:n≤9223372036854775807:=Nat.le_trans hmc (Nat.le_trans hcm (by decide))
 rcases hel with h0 | ⟨g,off,n',h1,h2,h3,h4⟩
 ·exact ⟨[],ao,n,c,e4,h0,hlen,.inl rfl⟩
 ·obtain ⟨l,hl,hk⟩:=pick_list (α:=Int) n (fun i x=>W.cell? ⟨g,off + i,none⟩ = some (.int .i64 x)) (fun i hi=>by
   obtain ⟨cs,y,h5,h6,h7⟩:=h4 i hi
   match cs,h5 with
   | [c0],_ =>
    obtain ⟨k,e0,-,-⟩:=DataW.trod_int Tryz.underlying3 h7
    simp only [List.cons.injEq,and_true] at e0
    subst e0
    have:=h6 0 _ rfl
    rw [Nat.mul_one,Nat.add_zero] at this
    exact ⟨k,this⟩)
  refine ⟨l,ao,n,c,e4,hl.symm,hlen,.inr ⟨g,off,h1,h2,fun j u hj=>?_⟩⟩
  rw [← ivs_flat,ivs,List.getElem?_map] at hj
  obtain ⟨x,hx,rfl⟩:=Option.map_eq_some_iff.1 hj
  exact hk j x hx
end
end Go.Proofs.YtmkdfbelbcocpaaGreatDoor
