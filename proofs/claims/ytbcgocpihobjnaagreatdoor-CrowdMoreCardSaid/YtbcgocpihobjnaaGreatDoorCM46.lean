import Derived.Test.YtbcgocpihobjnaaGreatDoorCM44
import Derived.Test.YtbcgocpihobjnaaGreatDoorCM45
import Derived.Test.YtbcgocpihobjnaaGreatDoorCM11
set_option linter.all false
namespace Go.Proofs.YtbcgocpihobjnaaGreatDoor
open Go.RowKit Go.Sort Go.Maps
theorem Zgf:(Tryz.prog.info? 44).map (fun i=>(i.zero,i.size,i.bytes))=some (some (.agg #[.slice none 0 0,.slice none 0 0,.int .i64 0]),3,56):=by kernel_rfl
theorem Znz {w:World} {c:Crw} {qo mo uo:Option Addr} {qn mn un qc mc uc B:Nat} (h:ArgC w c [.slice qo qn qc,.slice mo mn mc,.slice uo un uc] B) {ms:List Mem} {xo:Option Addr} {xc n:Nat} (hu:Zfk w ms xo) (hn:n=ms.length) (hm:∀ m∈ms,Zos m) (h9:ms.length≤1000000):ArgC w (Z0w c ms) [.slice qo qn qc,.slice xo n xc,.slice uo un uc] B:=by
 obtain⟨⟨qo',qc',mo',mc',uo',uc',he,h1,h2,h3,h4⟩,htab,hok,hnu⟩:=h;simp only[List.cons.injEq,Value.slice.injEq,and_true] at he;obtain⟨⟨rfl,rfl,rfl⟩,⟨-,-,-⟩,rfl,rfl,rfl⟩:=he;exact⟨⟨_,_,xo,xc,_,_,by rw[hn];rfl,h1,hu,h3,h4⟩,htab,⟨hok.q,hm,hok.nq,h9,hok.nu⟩,hnu⟩
theorem Zyw {c:Crw} (hv:Zak c=true):∀ r∈Zas c,r.length≤c.ms.length:=fun r hr=>by
 obtain⟨i,hi,rfl⟩:=List.mem_iff_getElem.1 hr;obtain⟨-,e⟩:=Z0v hv (List.getElem?_eq_getElem hi);rw[e,List.length_map];exact Zyp _ _ _
end Go.Proofs.YtbcgocpihobjnaaGreatDoor
