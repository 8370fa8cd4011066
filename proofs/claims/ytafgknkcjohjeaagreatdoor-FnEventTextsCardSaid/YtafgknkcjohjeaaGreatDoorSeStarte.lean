/- StartSession of the program and of the reference. Conditions: none. -/
import Derived.Test.YtafgknkcjohjeaaGreatDoorSlOpse
import Derived.Test.YtafgknkcjohjeaaGreatDoorSeOwn4e
import Derived.Test.YtafgknkcjohjeaaGreatDoorCmpe
import Derived.Test.YtafgknkcjohjeaaGreatDoorInkGe
namespace Go.Proofs.YtafgknkcjohjeaaGreatDoor
open Go Go.RowKit
def nilSetup:PSetup:=⟨0,[],0,0,0,[],0,[],0⟩
def nilSess:PSess:=⟨nilSetup,[],[],0,[]⟩
theorem nilSess_is (I:Ids) (o:Bool) (w:World):SessIs I o w nilSess (.agg #[.int .i64 0,.slice none 0 0,.int .i64 0,.int .i64 0,.int .i64 0,.slice none 0 0,.int .i64 0,.slice none 0 0,.int .i64 0,.slice none 0 0,.slice none 0 0,.int .i64 0,.slice none 0 0]) [] :=
 ⟨_,_,_,_,_,_,[],[],[],[],[],[],rfl,rfl,slice_nil _ _ _ _,slice_nil _ _ _ _,slice_nil _ _ _ _,slice_nil _ _ _ _,slice_nil _ _ _ _,slice_nil _ _ _ _⟩
end Go.Proofs.YtafgknkcjohjeaaGreatDoor
