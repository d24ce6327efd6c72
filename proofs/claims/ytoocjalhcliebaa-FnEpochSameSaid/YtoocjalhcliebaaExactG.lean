/-
  The walk of the statement that the program peels packets as the reference does.
  Conditions: a slice among the arguments reads as a list of whole numbers.
-/
import Derived.Test.YtoocjalhcliebaaLawsP
import Derived.Test.YtoocjalhcliebaaPeel
import Derived.Test.YtoocjalhcliebaaPeelP
namespace Go.Proofs.Ytoocjalhcliebaa
open Go Go.RowKit

theorem sPacketPeel_p (s e t : Int) (A : Option Addr) (n c : Nat) (A2 : Option Addr) (n2 c2 : Nat) (lo hi : Nat) (h b : List Int) (w : World) (X : Peel) (ok : Bool) (hs : TwoR w lo hi h b A n c A2 n2 c2) (hX : X = peelP s ⟨e, h, t, b⟩) (hok : ok = peelB s ⟨e, h, t, b⟩) (hn : n ≤ 4194304) (hn2 : n2 ≤ 4194304) : Calls Try.prog 45 #[.int .i64 s, .agg #[.int .i64 e, .slice A n c, .int .i64 t, .slice A2 n2 c2]] w (NewPeel X ok w) := by
  subst hX hok
  exact sPacketPeel_c s e t A n c A2 n2 c2 lo hi h b w hs hn hn2
theorem peelP_len (s : Int) (p : Pkt) : (peelP s p).p.h.length ≤ 9 ∧ (peelP s p).p.b.length ≤ 6 := by
  cases h : peelB s p with
  | false => rw [peelP_no h]; simp [zeroPeel, zeroPkt]
  | true =>
    rw [peelP_yes h]
    obtain ⟨_, _, h3, _, h5, _⟩ := validB_iff.1 (peelL_valid h)
    omega
end Go.Proofs.Ytoocjalhcliebaa
