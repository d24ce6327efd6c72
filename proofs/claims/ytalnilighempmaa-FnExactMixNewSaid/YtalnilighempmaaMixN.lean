/-
  Contracts on mixes that have seen nothing and in which nothing waits.
  No condition.
-/
import Derived.Test.YtalnilighempmaaBox
namespace Go.Proofs.Ytalnilighempmaa
open Go Go.RowKit

theorem eqPeeledS_0 (A : Option Addr) (c : Nat) (B : Option Addr) (d : Nat) (w : World) : Calls Try.prog 116 #[.slice A 0 c, .slice B 0 d] w fun e w' => e = .returned (.bool true) ∧ w = w' := by
  go_enter Try.func116, Try.ntmps116
  go_wp2_with fail
  go_loop [5] (fun i => i = .int .i64 0) (fun _ => 0)
  case atStart => rfl
  case round =>
    subst hrel
    go_wp2_with fail
    go_ret
    exact ⟨rfl, rfl⟩
theorem samePool_0 (A : Option Addr) (c : Nat) (B : Option Addr) (d : Nat) (w : World) : Calls Try.prog 40 #[.slice A 0 c, .slice B 0 d] w fun e w' => e = .returned (.bool true) ∧ w = w' := by
  go_enter Try.func40, Try.ntmps40
  go_wp2_with fail
  go_loop [5] (fun i => i = .int .i64 0) (fun _ => 0)
  case atStart => rfl
  case round =>
    subst hrel
    go_wp2_with fail
    go_ret
    exact ⟨rfl, rfl⟩
theorem markIntS_0 (A : Option Addr) (c : Nat) (a : Int) (w : World) : Calls Try.prog 52 #[.slice A 0 c, .int .i64 a] w fun e w' => e = .returned (.int .i64 a) ∧ w = w' := by
  go_enter Try.func52, Try.ntmps52
  go_wp2_with fail
  go_loop [1, 5] (fun m i => m = .int .i64 a ∧ i = .int .i64 0) (fun _ _ => 0)
  case atStart => exact ⟨rfl, rfl⟩
  case round =>
    obtain ⟨rfl, rfl⟩ := hrel
    go_wp2_with fail
    go_ret
    exact ⟨rfl, rfl⟩
theorem heldIntS_0 (A : Option Addr) (c : Nat) (a : Int) (w : World) : Calls Try.prog 53 #[.slice A 0 c, .int .i64 a] w fun e w' => e = .returned (.int .i64 a) ∧ w = w' := by
  go_enter Try.func53, Try.ntmps53
  go_wp2_with fail
  go_loop [1, 5] (fun m i => m = .int .i64 a ∧ i = .int .i64 0) (fun _ _ => 0)
  case atStart => exact ⟨rfl, rfl⟩
  case round =>
    obtain ⟨rfl, rfl⟩ := hrel
    go_wp2_with fail
    go_ret
    exact ⟨rfl, rfl⟩
theorem markPeeledS_0 (A : Option Addr) (c : Nat) (a : Int) (w : World) : Calls Try.prog 117 #[.slice A 0 c, .int .i64 a] w fun e w' => e = .returned (.int .i64 a) ∧ w = w' := by
  go_enter Try.func117, Try.ntmps117
  go_wp2_with fail
  go_loop [1, 5] (fun m i => m = .int .i64 a ∧ i = .int .i64 0) (fun _ _ => 0)
  case atStart => exact ⟨rfl, rfl⟩
  case round =>
    obtain ⟨rfl, rfl⟩ := hrel
    go_wp2_with fail
    go_ret
    exact ⟨rfl, rfl⟩
theorem heldPeeledS_0 (A : Option Addr) (c : Nat) (a : Int) (w : World) : Calls Try.prog 118 #[.slice A 0 c, .int .i64 a] w fun e w' => e = .returned (.int .i64 a) ∧ w = w' := by
  go_enter Try.func118, Try.ntmps118
  go_wp2_with fail
  go_loop [1, 5] (fun m i => m = .int .i64 a ∧ i = .int .i64 0) (fun _ _ => 0)
  case atStart => exact ⟨rfl, rfl⟩
  case round =>
    obtain ⟨rfl, rfl⟩ := hrel
    go_wp2_with fail
    go_ret
    exact ⟨rfl, rfl⟩
set_option maxRecDepth 100000 in
set_option maxHeartbeats 1600000 in
theorem eqMix_0 (s : Int) (A : Option Addr) (c : Nat) (A2 : Option Addr) (c2 : Nat) (B : Option Addr) (d : Nat) (B2 : Option Addr) (d2 : Nat) (w : World) : Calls Try.prog 61 #[.agg #[.int .i64 s, .slice A 0 c, .slice A2 0 c2], .agg #[.int .i64 s, .slice B 0 d, .slice B2 0 d2]] w (Tells true w) := by
  have hbw0 : Below w.heap.size w ((w.alloc (.cells #[.int .i64 s, .slice A 0 c, .slice A2 0 c2] 43)).alloc (.cells #[.int .i64 s, .slice B 0 d, .slice B2 0 d2] 43)) := ((Below.refl _ _).alloc (Nat.le_refl _) _).alloc (by simp) _
  go_enter Try.func61, Try.ntmps61
  go_wp2_with fail
  refine (eqIntS_t A 0 c 0 0 [] B 0 d 0 0 _ (SlR.nil (Nat.zero_le _) A) (SlR.nil (Nat.zero_le _) B) (by omega)).mono ?_
  rintro e w2 ⟨rfl, h2⟩
  obtain ⟨r1, r2⟩ := after_box2 h2
  have k2 := cell_of_row w2 w.heap.size 2 _ _ _ r1
  simp only [List.getElem?_toArray, List.getElem?_cons_zero, List.getElem?_cons_succ] at k2
  have p2 := cell_of_row w2 (w.heap.size + 1) 2 _ _ _ r2
  simp only [List.getElem?_toArray, List.getElem?_cons_zero, List.getElem?_cons_succ] at p2
  have hbw := hbw0.trans (h2.mono hbw0.size)
  clear r1 r2 h2 hbw0
  go_wp2_with fail
  refine (eqPeeledS_0 _ _ _ _ _).mono ?_
  rintro e w' ⟨rfl, rfl⟩
  go_wp2_with fail
  go_ret
  exact ⟨rfl, hbw⟩
set_option maxRecDepth 100000 in
set_option maxHeartbeats 1600000 in
theorem sameMix_0 (s : Int) (A : Option Addr) (c : Nat) (A2 : Option Addr) (c2 : Nat) (B : Option Addr) (d : Nat) (B2 : Option Addr) (d2 : Nat) (w : World) : Calls Try.prog 39 #[.agg #[.int .i64 s, .slice A 0 c, .slice A2 0 c2], .agg #[.int .i64 s, .slice B 0 d, .slice B2 0 d2]] w (Tells true w) := by
  have hbw0 : Below w.heap.size w ((w.alloc (.cells #[.int .i64 s, .slice A 0 c, .slice A2 0 c2] 43)).alloc (.cells #[.int .i64 s, .slice B 0 d, .slice B2 0 d2] 43)) := ((Below.refl _ _).alloc (Nat.le_refl _) _).alloc (by simp) _
  go_enter Try.func39, Try.ntmps39
  go_wp2_with fail
  refine (sameInts_t A 0 c 0 0 [] B 0 d 0 0 _ (SlR.nil (Nat.zero_le _) A) (SlR.nil (Nat.zero_le _) B) (by omega)).mono ?_
  rintro e w2 ⟨rfl, h2⟩
  obtain ⟨r1, r2⟩ := after_box2 h2
  have k2 := cell_of_row w2 w.heap.size 2 _ _ _ r1
  simp only [List.getElem?_toArray, List.getElem?_cons_zero, List.getElem?_cons_succ] at k2
  have p2 := cell_of_row w2 (w.heap.size + 1) 2 _ _ _ r2
  simp only [List.getElem?_toArray, List.getElem?_cons_zero, List.getElem?_cons_succ] at p2
  have hbw := hbw0.trans (h2.mono hbw0.size)
  clear r1 r2 h2 hbw0
  go_wp2_with fail
  refine (samePool_0 _ _ _ _ _).mono ?_
  rintro e w' ⟨rfl, rfl⟩
  go_wp2_with fail
  go_ret
  exact ⟨rfl, hbw⟩
set_option maxRecDepth 100000 in
set_option maxHeartbeats 1600000 in
theorem markMix_0 (s : Int) (A : Option Addr) (c : Nat) (A2 : Option Addr) (c2 : Nat) (a : Int) (w : World) : Calls Try.prog 62 #[.agg #[.int .i64 s, .slice A 0 c, .slice A2 0 c2], .int .i64 a] w fun e w' => e = .returned (.int .i64 a) ∧ Below w.heap.size w w' := by
  go_enter Try.func62, Try.ntmps62
  go_wp2_with fail
  refine (markIntS_0 _ _ _ _).mono ?_
  rintro e w' ⟨rfl, rfl⟩
  go_wp2_with fail
  refine (markPeeledS_0 _ _ _ _).mono ?_
  rintro e w' ⟨rfl, rfl⟩
  go_wp2_with fail
  go_ret
  exact ⟨rfl, (Below.refl _ _).alloc (Nat.le_refl _) _⟩
set_option maxRecDepth 100000 in
set_option maxHeartbeats 1600000 in
theorem heldMix_0 (s : Int) (A : Option Addr) (c : Nat) (A2 : Option Addr) (c2 : Nat) (a : Int) (w : World) (ha : 0 ≤ a) : Calls Try.prog 63 #[.agg #[.int .i64 s, .slice A 0 c, .slice A2 0 c2], .int .i64 a] w fun e w' => e = .returned (.int .i64 a) ∧ Below w.heap.size w w' := by
  have hna : ¬ a < 0 := by omega
  go_enter Try.func63, Try.ntmps63
  go_wp2_with fail
  refine (heldIntS_0 _ _ _ _).mono ?_
  rintro e w' ⟨rfl, rfl⟩
  go_wp2_with fail
  refine (heldPeeledS_0 _ _ _ _).mono ?_
  rintro e w' ⟨rfl, rfl⟩
  go_wp2_with fail
  go_ret
  exact ⟨rfl, (Below.refl _ _).alloc (Nat.le_refl _) _⟩
set_option maxRecDepth 100000 in
set_option maxHeartbeats 1600000 in
theorem mixValid_0 (s : Int) (A : Option Addr) (c : Nat) (A2 : Option Addr) (c2 : Nat) (w : World) : Calls Try.prog 41 #[.agg #[.int .i64 s, .slice A 0 c, .slice A2 0 c2]] w (Tells (elB s) w) := by
  cases hs : elB s with
  | false =>
    go_enter Try.func41, Try.ntmps41
    go_wp2_with (go_at_call 99; refine (isElement_c _ _).mono ?_; rintro e w' ⟨rfl, rfl⟩)
    go_ret
    exact ⟨rfl, (Below.refl _ _).alloc (Nat.le_refl _) _⟩
  | true =>
    go_enter Try.func41, Try.ntmps41
    go_wp2_with (go_at_call 99; refine (isElement_c _ _).mono ?_; rintro e w' ⟨rfl, rfl⟩)
    go_loop [26] (fun i => i = .int .i64 0) (fun _ => 0)
    case atStart => rfl
    case round =>
      subst hrel
      go_wp2_with fail
      go_loop [46] (fun i => i = .int .i64 0) (fun _ => 0)
      case atStart => rfl
      case round =>
        subst hrel
        go_wp2_with fail
        go_ret
        exact ⟨rfl, (Below.refl _ _).alloc (Nat.le_refl _) _⟩
/-- A call that returns a new mix with nothing in it. -/
def NewMix0 (s : Int) (ok : Bool) (w : World) (e : Ending) (w' : World) : Prop :=
  ∃ A c A2 c2, e = .returned (.tuple #[.agg #[.int .i64 s, .slice A 0 c, .slice A2 0 c2], .bool ok]) ∧ Below w.heap.size w w'
def newS (s : Int) : Int := if elB s = true then s else 0
set_option maxRecDepth 100000 in
theorem mixNew_c (s : Int) (w : World) : Calls Try.prog 55 #[.int .i64 s] w (NewMix0 (newS s) (elB s) w) := by
  cases hs : elB s with
  | false =>
    have hn : newS s = 0 := by simp [newS, hs]
    rw [hn]
    clear hn
    go_enter Try.func55, Try.ntmps55
    go_wp2_with (go_at_call 99; refine (isElement_c _ _).mono ?_; rintro e w' ⟨rfl, rfl⟩)
    refine bodyPost_ret (v := .tuple #[.agg #[.int .i64 0, .slice none 0 0, .slice none 0 0], .bool false]) (by simp [results, Try.results55, go_sem]) rfl ?_
    exact ⟨_, _, _, _, rfl, (Below.refl _ _).alloc (Nat.le_refl _) _⟩
  | true =>
    have hn : newS s = s := by simp [newS, hs]
    rw [hn]
    clear hn
    go_enter Try.func55, Try.ntmps55
    go_wp2_with (go_at_call 99; refine (isElement_c _ _).mono ?_; rintro e w' ⟨rfl, rfl⟩)
    refine bodyPost_ret (v := .tuple #[.agg #[.int .i64 s, .slice none 0 0, .slice none 0 0], .bool true]) (by simp [results, Try.results55, go_sem]) rfl ?_
    exact ⟨_, _, _, _, rfl, (Below.refl _ _).alloc (Nat.le_refl _) _⟩
set_option maxRecDepth 100000 in
theorem sMixNew_c (s : Int) (w : World) : Calls Try.prog 56 #[.int .i64 s] w (NewMix0 (newS s) (elB s) w) := by
  cases hs : elB s with
  | false =>
    have hn : newS s = 0 := by simp [newS, hs]
    rw [hn]
    clear hn
    go_enter Try.func56, Try.ntmps56
    go_wp2_with (go_at_call 91; refine (l1Is_c _ _).mono ?_; rintro e w' ⟨rfl, rfl⟩)
    refine bodyPost_ret (v := .tuple #[.agg #[.int .i64 0, .slice none 0 0, .slice none 0 0], .bool false]) (by simp [results, Try.results56, go_sem]) rfl ?_
    exact ⟨_, _, _, _, rfl, (Below.refl _ _).alloc (Nat.le_refl _) _⟩
  | true =>
    have hn : newS s = s := by simp [newS, hs]
    rw [hn]
    clear hn
    go_enter Try.func56, Try.ntmps56
    go_wp2_with (go_at_call 91; refine (l1Is_c _ _).mono ?_; rintro e w' ⟨rfl, rfl⟩)
    refine bodyPost_ret (v := .tuple #[.agg #[.int .i64 s, .slice (some ⟨w.heap.size + 1, 0, none⟩) 0 0, .slice (some ⟨w.heap.size + 2, 0, none⟩) 0 0], .bool true]) (by simp [results, Try.results56, go_sem]) rfl ?_
    exact ⟨_, _, _, _, rfl, (((Below.refl w.heap.size w).alloc (Nat.le_refl _) _).alloc (by simp) _).alloc (by simp; omega) _⟩
end Go.Proofs.Ytalnilighempmaa
