import Derived.Test.YtmkdfbelbcocpaaGreatDoorCD35
set_option linter.unusedVariables false
set_option linter.unusedSimpArgs false
namespace Go.Proofs.YtmkdfbelbcocpaaGreatDoor
open Go.RowKit Go.Sort
theorem Z7a (p:Prd) (n:Nat) (g:GoP n p) (w:World) (P:Nat→Prop) (vs:List Value) (B:Nat) (h:Zai w P p vs) (hT:Tab w B) :
  Calls Tryz.prog 54 #[.agg vs.toArray] w fun e w'=>∃ ao cp,e = .returned (.slice ao (Zhq p).length cp)∧Zcr w' ao (Zhq p)∧Below w.heap.size w w' :=
 (Zn6 p w P vs B (by have:=(Zil g.valid).1;omega) (Ziw p (Zet g.valid)) h hT).mono (fun e w' h=>by
  obtain⟨ao,cp,h1,h2,h3⟩:=h
  exact⟨ao,cp,h1,h2.strsR rfl,h3⟩)
theorem Z4o (p:Prd) (hN:Za8 p≤100) (s:List Nat) (hs:∀ y∈s,y<256) (W:World) (ao:Option Addr) (cp:Nat) (h:Zcr W ao (Zhq p)) :
  Calls Tryz.prog 49 #[.slice ao (Zhq p).length cp,.string (Zad s)] W fun e w'=>e = .returned (.bool ((Zhq p).contains s))∧W=w' :=
 rhas_any' ao (Zhq p).length cp (Zhq p) s W rfl (Zru p (by omega)) h hs (fun s hs=>Z5y hs)
end Go.Proofs.YtmkdfbelbcocpaaGreatDoor
