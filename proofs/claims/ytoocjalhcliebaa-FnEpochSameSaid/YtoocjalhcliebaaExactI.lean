/-
  The walk of the statement that the program's new epochs are the reference's.
  Conditions: a slice among the arguments reads as a list of whole numbers.
-/
import Derived.Test.YtoocjalhcliebaaMixU
import Derived.Test.YtoocjalhcliebaaMixS
import Derived.Test.YtoocjalhcliebaaMixE
import Derived.Test.YtoocjalhcliebaaMixC
import Derived.Test.YtoocjalhcliebaaMixM
import Derived.Test.YtoocjalhcliebaaOpenM
namespace Go.Proofs.Ytoocjalhcliebaa
open Go Go.RowKit

/-- What an epoch leaves, taken apart. -/
def EpR (s : Int) (seen : List Int) (pl : List Peel) (sec RS : Int) (RQ : List Int) (RP : List Peel) (OKV : Bool) : Prop :=
  (epochP ⟨s, seen, pl⟩ sec).secret = RS ∧ (epochP ⟨s, seen, pl⟩ sec).seen = RQ ∧ (epochP ⟨s, seen, pl⟩ sec).pool = RP ∧ epochB ⟨s, seen, pl⟩ sec = OKV
theorem epoch_bd {s sec : Int} {seen : List Int} {pl : List Peel} {N : Nat} (h1 : seen.length ≤ N) (h2 : pl.length ≤ N) (h3 : PlB N pl) :
    (epochP ⟨s, seen, pl⟩ sec).seen.length ≤ N ∧ (epochP ⟨s, seen, pl⟩ sec).pool.length ≤ N ∧ PlB N (epochP ⟨s, seen, pl⟩ sec).pool := by
  unfold epochP
  split
  · split
    · exact ⟨h1, h2, h3⟩
    · exact ⟨Nat.zero_le _, h2, h3⟩
  · exact ⟨Nat.zero_le _, Nat.zero_le _, fun x hx => by cases hx⟩
theorem epoch_open (s sec : Int) {seen : List Int} {pl : List Peel} {N : Nat} (h1 : seen.length ≤ N) (h2 : pl.length ≤ N) (h3 : PlB N pl) :
    ∃ RS RQ RP OKV, EpR s seen pl sec RS RQ RP OKV ∧ RQ.length ≤ N ∧ RP.length ≤ N ∧ PlB N RP := by
  obtain ⟨k1, k2, k3⟩ := epoch_bd (s := s) (sec := sec) h1 h2 h3
  exact ⟨_, _, _, _, ⟨rfl, rfl, rfl, rfl⟩, k1, k2, k3⟩
theorem mixEpoch_p (s : Int) (A : Option Addr) (n c : Nat) (A2 : Option Addr) (n2 c2 lo hi : Nat) (seen : List Int) (pl : List Peel) (sec : Int) (w : World) (RS : Int) (RQ : List Int) (RP : List Peel) (OKV : Bool) (hs : MixR w lo hi seen pl A n c A2 n2 c2) (hn : n ≤ 4194304) (hn2 : n2 ≤ 4194304) (hpl : PlB 4194304 pl) (hR : EpR s seen pl sec RS RQ RP OKV) : Calls Try.prog 6 #[.agg #[.int .i64 s, .slice A n c, .slice A2 n2 c2], .int .i64 sec] w (NewMixB RS RQ RP OKV w) := by
  obtain ⟨rfl, rfl, rfl, rfl⟩ := hR
  exact mixEpoch_c s A n c A2 n2 c2 lo hi seen pl sec w hs hn hn2 hpl
theorem sMixEpoch_p (s : Int) (A : Option Addr) (n c : Nat) (A2 : Option Addr) (n2 c2 lo hi : Nat) (seen : List Int) (pl : List Peel) (sec : Int) (w : World) (RS : Int) (RQ : List Int) (RP : List Peel) (OKV : Bool) (hs : MixR w lo hi seen pl A n c A2 n2 c2) (hn : n ≤ 4194304) (hn2 : n2 ≤ 4194304) (hpl : PlB 4194304 pl) (hR : EpR s seen pl sec RS RQ RP OKV) : Calls Try.prog 7 #[.agg #[.int .i64 s, .slice A n c, .slice A2 n2 c2], .int .i64 sec] w (NewMixB RS RQ RP OKV w) := by
  obtain ⟨rfl, rfl, rfl, rfl⟩ := hR
  exact sMixEpoch_c s A n c A2 n2 c2 lo hi seen pl sec w hs hn hn2 hpl
theorem end_open {n : Nat} {pl : List Peel} (hb : PlB 1048576 pl) : ∃ E, endPl (1 + (n : Int)) pl = E ∧ 0 ≤ E := ⟨_, rfl, by have := (endPl_le (a := 1 + (n : Int)) hb).1; omega⟩
end Go.Proofs.Ytoocjalhcliebaa
