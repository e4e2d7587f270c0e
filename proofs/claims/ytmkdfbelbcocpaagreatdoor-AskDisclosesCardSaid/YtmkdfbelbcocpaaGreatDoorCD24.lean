import Derived.Sort.KeysCollected
import Derived.Test.YtmkdfbelbcocpaaGreatDoorCD22
set_option linter.unusedVariables false
set_option linter.unusedSimpArgs false
namespace Go.Proofs.YtmkdfbelbcocpaaGreatDoor
open Go.RowKit Go.Sort Go.Maps
def byL (s:List Nat):List UInt8:=s.map UInt8.ofNat
theorem Z6p {a b:List Nat} (ha:NmOk a) (hb:NmOk b) (h:byL a=byL b):a=b:=Zd3 a b ha.b hb.b h
theorem Zux (s:List Nat):Zgp s = .string (byL s):=by unfold Zgp;rw[Zjt];rfl
theorem Z5u:∀ (a b:List Nat),(∀ y∈a,y<256)→(∀ y∈b,y<256)→ltL a b=true→byL a<byL b
 | _,[],_,_,h=>by simp[ltL] at h
 | [],_::_,_,_,_=>by simp[byL]
 | x::xs,y::ys,ha,hb,h=>by
  have hx:=ha x (List.mem_cons_self ..)
  have hy:=hb y (List.mem_cons_self ..)
  simp only[ltL,Bool.or_eq_true,decide_eq_true_eq,Bool.and_eq_true,beq_iff_eq] at h
  show UInt8.ofNat x::xs.map UInt8.ofNat<UInt8.ofNat y::ys.map UInt8.ofNat
  rw[List.cons_lt_cons_iff]
  rcases h with h | ⟨rfl,h⟩
  ·left
   rw[UInt8.lt_iff_toNat_lt]
   simp[Nat.mod_eq_of_lt hx,Nat.mod_eq_of_lt hy]
   exact h
  ·right
   exact⟨rfl,Z5u xs ys (fun z hz=>ha z (List.mem_cons_of_mem _ hz)) (fun z hz=>hb z (List.mem_cons_of_mem _ hz)) h⟩
theorem Z75 {m:List (List Nat)} (h:Zjh m):m.Nodup:=h.imp (fun {a b} hab e=>by rw[e,Za4] at hab;cases hab)
theorem Zq7 {w:World} {b n:Nat} {D:DataW Unit} (hown:w.ownsMap Tryz.prog 9 (plainElem Tryz.prog 4) b n D) (ns:List (List Nat)) (hns:∀ s∈ns,NmOk s) (hA:Zjh ns) (hD:∀ l,has D l=true↔∃ s∈ns,Zgp s=l)
  (ss:List (List UInt8)) (hp:ss.Perm (strKeys D)):ss.mergeSort (fun x y=>decide (x≤y))=ns.map byL∧ss.length=ns.length:=by
 obtain⟨es,hDe,hpw,_⟩:=hown.entries Zkk
 obtain⟨es',hD',hko⟩:=hown.keysOf
 obtain rfl:es=es':=by rw[hDe] at hD';simpa using hD'
 subst hDe
 have hk:∀ p∈es,∃ x,p.1 = .string x:=fun p hp=>by
  obtain⟨v,hv⟩:=hko p hp
  obtain⟨x,_,hx,_⟩:=Maps.keyOf_str Tryz.underlying9 hv
  exact⟨x,hx⟩
 have hnd:(ns.map byL).Nodup:=by
  refine List.pairwise_map.2 ((Z75 hA).imp_of_mem fun {p q} hp' hq' hne e=>hne (Z6p (hns p hp') (hns q hq') e))
 have hq:(ns.map byL).Perm (strKeys (.map es)):=perm_strKeys hpw hk hnd (fun x=>by
  rw[hD,List.mem_map]
  constructor
  ·rintro⟨s,hs,rfl⟩;exact⟨s,hs,Zux s⟩
  ·rintro⟨s,hs,hl⟩
   rw[Zux] at hl
   injection hl with hl
   exact⟨s,hs,hl⟩)
 have hpq:=hp.trans hq.symm
 refine⟨?_,by rw[hpq.length_eq,List.length_map]⟩
 have h1:=mergeSort_of_perm hpq
 have h2:(ns.map byL).mergeSort leB=ns.map byL:=by
  refine List.mergeSort_of_pairwise (List.pairwise_map.2 (hA.imp_of_mem fun {p q} hp' hq' hlt=>?_))
  exact decide_eq_true (List.le_of_lt (Z5u p q (hns p hp').b (hns q hq').b hlt))
 exact h1.trans h2
theorem Zh2.del {S:List (List Nat)} {D:DataW Unit} (k:List Nat) (h1:∀ l,has D l=true↔∃ k∈S,Zgp k=l) (hS:∀ x∈S,NmOk x) (hk:NmOk k) :
  ∀ l,has (D.del (Zgp k)) l=true↔∃ x∈S.filter (fun s=>s != k),Zgp x=l:=by
 intro l
 by_cases he:l=Zgp k
 ·subst he
  rw[has_del_same]
  constructor
  ·intro h;cases h
  ·rintro⟨x,hx,hl⟩
   rw[List.mem_filter] at hx
   exact absurd (Zle x k (hS x hx.1) hk hl) (by simpa using hx.2)
 ·rw[has_del_other he,h1]
  constructor
  ·rintro⟨x,hx,hl⟩
   refine⟨x,List.mem_filter.2 ⟨hx,?_⟩,hl⟩
   have:x≠k:=by rintro rfl;exact he hl.symm
   simpa using this
  ·rintro⟨x,hx,hl⟩
   exact⟨x,(List.mem_filter.1 hx).1,hl⟩
end Go.Proofs.YtmkdfbelbcocpaaGreatDoor
