/- The reference's reader of trees: read, at any node. Conditions: none. -/
import Derived.Test.YtkickllohilciaaRd4x
import Derived.Test.YtkickllohilciaaRd4k0
import Derived.Test.YtkickllohilciaaRd4k5
import Derived.Test.YtkickllohilciaaRd4k2
import Derived.Test.YtkickllohilciaaRd4ko
namespace Go.Proofs.Ytkickllohilciaa
open Go Go.RowKit

theorem spec_read_c {e et : TypeId} {o ot : Bool} {xs : List PSymbol} {ns : List PNode} {vl vn : Value} {Fl Fn : List Nat} {gp gu gb gd : Nat} (hsy : ∀ s ∈ xs, boxIn (boxOf s)) (hx : xs.length ≤ 8) (hn : ns.length ≤ 15) : ∀ f, ReadC e et o ot xs ns vl vn Fl Fn gp gu gb gd f
  | 0 => fun k st c w hk => by omega
  | f + 1 => fun k st c w hkf hk h hg hi hc => by
    have IH := spec_read_c (e := e) (et := et) (o := o) (ot := ot) (vl := vl) (vn := vn) (Fl := Fl) (Fn := Fn) (gp := gp) (gu := gu) (gb := gb) (gd := gd) hsy hx hn f
    obtain ⟨kd, a, b, sg, hnd⟩ : ∃ kd a b sg, nodeAt ns k = ⟨kd, a, b, sg⟩ := ⟨_, _, _, _, rfl⟩
    by_cases h0 : kd = 0
    · subst h0; exact spec_read0_c IH hsy hx hn k w a b sg hnd hkf hk h hg hi hc
    by_cases hkd : 1 ≤ kd ∧ kd ≤ 5
    · by_cases h5 : kd = 5
      · subst h5; exact spec_read5_c IH hsy hx hn k w a b sg hnd hkf hk h hg hi hc
      by_cases h2 : kd = 2
      · subst h2; exact spec_read2_c IH hsy hx hn k w a b sg hnd hkf hk h hg hi hc
      exact spec_reado_c IH hsy hx hn k w kd a b sg hnd h0 h5 h2 hkd hkf hk h hg hi hc
    · exact spec_readx_c IH hsy hx hn k w kd a b sg hnd h0 hkd hkf hk h hg hi hc
end Go.Proofs.Ytkickllohilciaa
