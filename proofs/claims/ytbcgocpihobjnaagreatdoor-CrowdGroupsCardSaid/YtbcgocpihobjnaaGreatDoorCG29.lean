import Derived.Test.YtbcgocpihobjnaaGreatDoorCG26
import Derived.Test.YtbcgocpihobjnaaGreatDoorCG25
import Derived.Test.YtbcgocpihobjnaaGreatDoorCG23
import Derived.Test.YtbcgocpihobjnaaGreatDoorCG11
set_option linter.all false
set_option maxRecDepth 100000
namespace Go.Proofs.YtbcgocpihobjnaaGreatDoor
open Go.RowKit Go.Sort Go.Maps
theorem Z1b (t:Array Value) (h:t.size=39):∃ f:Nat→Value,t=#[f 0,f 1,f 2,f 3,f 4,f 5,f 6,f 7,f 8,f 9,f 10,f 11,f 12,f 13,f 14,f 15,f 16,f 17,f 18,f 19,f 20,f 21,f 22,f 23,f 24,f 25,f 26,f 27,f 28,f 29,f 30,f 31,f 32,f 33,f 34,f 35,f 36,f 37,f 38]:=by
 obtain⟨l⟩:=t;have hl:l.length=39:=h
 have e:l=(List.range 39).map (fun i=>l.getD i undef):=by
  apply List.ext_getElem
  ·simp[hl]
  ·intro i h1 h2
   simp[List.getD,h1]
 exact⟨fun i=>l.getD i undef,congrArg List.toArray e⟩
end Go.Proofs.YtbcgocpihobjnaaGreatDoor
