/-
  The walks of the statements on packets that are made.
  Conditions: the arguments read as lists of bytes.
-/
import Derived.Test.YtoocjalhcliebaaLawsC
import Derived.Test.YtoocjalhcliebaaBox
namespace Go.Proofs.Ytoocjalhcliebaa
open Go Go.RowKit

theorem makeP_len (s to : Int) (ps ns ls : List Int) : (makeP s ps ns to ls).h.length ≤ 9 ∧ (makeP s ps ns to ls).b.length ≤ 6 := by
  cases h : makeB s ps ns to ls with
  | false => rw [makeP_no h]; simp [zeroPkt]
  | true =>
    rw [makeP_yes h]
    obtain ⟨_, _, h3, _, h5, _⟩ := validB_iff.1 (makeL_valid h)
    omega
theorem make_valid {s to : Int} {ps ns ls : List Int} {P : Pkt} (h : P = makeL s ps ns to ls) (hb : makeB s ps ns to ls = true) : validB ⟨P.e, P.h, P.t, P.b⟩ = true := by
  rw [h]; exact makeL_valid hb

theorem sPacketMake_p (s : Int) (A : Option Addr) (n c lo hi : Nat) (ps : List Int) (A2 : Option Addr) (n2 c2 lo2 hi2 : Nat) (ns : List Int) (to : Int) (A3 : Option Addr) (n3 c3 lo3 hi3 : Nat) (ls : List Int) (w : World) (P : Pkt) (hs : SlR .i64 w lo hi A n ps) (ht : SlR .i64 w lo2 hi2 A2 n2 ns) (hu : SlR .i64 w lo3 hi3 A3 n3 ls) (hn : n ≤ 4194304) (hn2 : n2 ≤ 4194304) (hn3 : n3 ≤ 4194304) (hP : P = makeP s ps ns to ls) : Calls Try.prog 44 #[.int .i64 s, .slice A n c, .slice A2 n2 c2, .int .i64 to, .slice A3 n3 c3] w (NewPkt P (makeB s ps ns to ls) w) := by
  subst hP
  exact sPacketMake_c s A n c lo hi ps A2 n2 c2 lo2 hi2 ns to A3 n3 c3 lo3 hi3 ls w hs ht hu hn hn2 hn3

end Go.Proofs.Ytoocjalhcliebaa
