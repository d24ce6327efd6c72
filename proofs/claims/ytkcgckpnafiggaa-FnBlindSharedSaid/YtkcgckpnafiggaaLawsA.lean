/-
  The walks of chapter 1's statements: each returns true and leaves what was there as it was.
  Conditions: the arguments read as lists of bytes or are whole numbers.
-/
import Derived.Test.YtkcgckpnafiggaaDrawA
namespace Go.Proofs.Ytkcgckpnafiggaa
open Go Go.RowKit

theorem element_c (a : Int) (w : World) (h0 : 0 ≤ a) (h1 : a ≤ 4611686018427387904) : Calls Try.prog 25 #[.int .i64 a] w fun e w' => ∃ b : Int, e = .returned (.int .i64 b) ∧ elB b = true ∧ w = w' := by
  have hp := elemP_el a
  go_enter Try.func25, Try.ntmps25
  go_wp2
  go_ret
  exact ⟨_, rfl, hp, rfl⟩

theorem drawPublicOf_c (A : Option Addr) (n c : Nat) (xs : List Int) (w : World) (h : SlR .u8 w 0 w.heap.size A n xs) (hb : ∀ x ∈ xs, 0 ≤ x ∧ x ≤ 255) (hc : n ≤ c) (hc2 : c ≤ 9223372036854775807) :
    Calls Try.prog 26 #[.slice A n c] w fun e w' => ∃ x : Int, e = .returned (.int .i64 x) ∧ Below w.heap.size w w' := by
  go_enter Try.func26, Try.ntmps26
  go_wp2_with fail
  refine (l6Open_c A n c xs w h hb hc hc2).mono ?_
  rintro e w1 ⟨rfl, hr, hb1⟩
  go_wp2_with fail
  refine (l91Is_c _ _ _ hr (by omega)).mono ?_
  rintro e w2 ⟨x, rfl, _, hg⟩
  go_wp2_with fail
  go_ret
  exact ⟨_, rfl, hb1.grown hg hb1.size (fun k hk => by injection hk with hk; omega)⟩
theorem drawFactorOf_c (A : Option Addr) (n c : Nat) (xs : List Int) (w : World) (h : SlR .u8 w 0 w.heap.size A n xs) (hb : ∀ x ∈ xs, 0 ≤ x ∧ x ≤ 255) (hc : n ≤ c) (hc2 : c ≤ 9223372036854775807) :
    Calls Try.prog 24 #[.slice A n c] w fun e w' => ∃ x : Int, e = .returned (.int .i64 x) ∧ Below w.heap.size w w' := by
  go_enter Try.func24, Try.ntmps24
  go_wp2_with fail
  refine (l6Open_c A n c xs w h hb hc hc2).mono ?_
  rintro e w1 ⟨rfl, hr, hb1⟩
  go_wp2_with fail
  refine (l91Is_c _ _ _ hr (by omega)).mono ?_
  rintro e w2 ⟨x, rfl, _, hg⟩
  go_wp2_with fail
  go_ret
  exact ⟨_, rfl, hb1.grown hg hb1.size (fun k hk => by injection hk with hk; omega)⟩
theorem drawSharedOf_c (A : Option Addr) (n c : Nat) (xs : List Int) (w : World) (h : SlR .u8 w 0 w.heap.size A n xs) (hb : ∀ x ∈ xs, 0 ≤ x ∧ x ≤ 255) (hc : n ≤ c) (hc2 : c ≤ 9223372036854775807) :
    Calls Try.prog 27 #[.slice A n c] w fun e w' => ∃ x y : Int, e = .returned (.tuple #[.int .i64 x, .int .i64 y]) ∧ Below w.heap.size w w' := by
  go_enter Try.func27, Try.ntmps27
  go_wp2_with fail
  refine (l6Open_c A n c xs w h hb hc hc2).mono ?_
  rintro e w1 ⟨rfl, hr, hb1⟩
  go_wp2_with fail
  refine (l91Is_c _ _ _ hr (by omega)).mono ?_
  rintro e w2 ⟨x, rfl, hr2, hg⟩
  go_wp2_with fail
  refine (l91Is_c _ _ _ hr2 (by omega)).mono ?_
  rintro e w3 ⟨y, rfl, _, hg2⟩
  go_wp2_with fail
  go_ret2
  exact ⟨_, _, rfl, hb1.grown (only_trans hg hg2) hb1.size (fun k hk => by injection hk with hk; omega)⟩
theorem drawBlindOf_c (A : Option Addr) (n c : Nat) (xs : List Int) (w : World) (h : SlR .u8 w 0 w.heap.size A n xs) (hb : ∀ x ∈ xs, 0 ≤ x ∧ x ≤ 255) (hc : n ≤ c) (hc2 : c ≤ 9223372036854775807) :
    Calls Try.prog 28 #[.slice A n c] w fun e w' => ∃ x y : Int, e = .returned (.tuple #[.int .i64 x, .int .i64 y]) ∧ Below w.heap.size w w' := by
  go_enter Try.func28, Try.ntmps28
  go_wp2_with fail
  refine (drawSharedOf_c A n c xs w h hb hc hc2).mono ?_
  rintro e w1 ⟨x, y, rfl, hb1⟩
  go_wp2_with fail
  go_ret2
  exact ⟨_, _, rfl, hb1⟩

theorem wFnExactFactorOf (a : Int) (w : World) : Calls Try.prog 4 #[.int .i64 a] w fun e w' => e = .returned (.bool true) ∧ Below w.heap.size w w' := by
  go_enter Try.func4, Try.ntmps4
  go_wp2_with (first | (go_at_call 21; refine (public_c _ _).mono ?_; rintro e w' ⟨rfl, rfl⟩) | (go_at_call 23; refine (shared_c _ _ _).mono ?_; rintro e w' ⟨rfl, rfl⟩) | (go_at_call 19; refine (blind_c _ _ _).mono ?_; rintro e w' ⟨rfl, rfl⟩) | (go_at_call 17; refine (factor_c _ _).mono ?_; rintro e w' ⟨rfl, rfl⟩) | (go_at_call 20; refine (sPublic_c _ _).mono ?_; rintro e w' ⟨rfl, rfl⟩) | (go_at_call 22; refine (sShared_c _ _ _).mono ?_; rintro e w' ⟨rfl, rfl⟩) | (go_at_call 18; refine (sBlind_c _ _ _).mono ?_; rintro e w' ⟨rfl, rfl⟩) | (go_at_call 16; refine (sFactor_c _ _).mono ?_; rintro e w' ⟨rfl, rfl⟩))
  go_ret
  exact ⟨rfl, Below.refl _ _⟩
theorem wFnExactPublicOf (a : Int) (w : World) : Calls Try.prog 6 #[.int .i64 a] w fun e w' => e = .returned (.bool true) ∧ Below w.heap.size w w' := by
  go_enter Try.func6, Try.ntmps6
  go_wp2_with (first | (go_at_call 21; refine (public_c _ _).mono ?_; rintro e w' ⟨rfl, rfl⟩) | (go_at_call 23; refine (shared_c _ _ _).mono ?_; rintro e w' ⟨rfl, rfl⟩) | (go_at_call 19; refine (blind_c _ _ _).mono ?_; rintro e w' ⟨rfl, rfl⟩) | (go_at_call 17; refine (factor_c _ _).mono ?_; rintro e w' ⟨rfl, rfl⟩) | (go_at_call 20; refine (sPublic_c _ _).mono ?_; rintro e w' ⟨rfl, rfl⟩) | (go_at_call 22; refine (sShared_c _ _ _).mono ?_; rintro e w' ⟨rfl, rfl⟩) | (go_at_call 18; refine (sBlind_c _ _ _).mono ?_; rintro e w' ⟨rfl, rfl⟩) | (go_at_call 16; refine (sFactor_c _ _).mono ?_; rintro e w' ⟨rfl, rfl⟩))
  go_ret
  exact ⟨rfl, Below.refl _ _⟩
theorem wFnExactBlindOf (a b : Int) (w : World) : Calls Try.prog 5 #[.int .i64 a, .int .i64 b] w fun e w' => e = .returned (.bool true) ∧ Below w.heap.size w w' := by
  go_enter Try.func5, Try.ntmps5
  go_wp2_with (first | (go_at_call 21; refine (public_c _ _).mono ?_; rintro e w' ⟨rfl, rfl⟩) | (go_at_call 23; refine (shared_c _ _ _).mono ?_; rintro e w' ⟨rfl, rfl⟩) | (go_at_call 19; refine (blind_c _ _ _).mono ?_; rintro e w' ⟨rfl, rfl⟩) | (go_at_call 17; refine (factor_c _ _).mono ?_; rintro e w' ⟨rfl, rfl⟩) | (go_at_call 20; refine (sPublic_c _ _).mono ?_; rintro e w' ⟨rfl, rfl⟩) | (go_at_call 22; refine (sShared_c _ _ _).mono ?_; rintro e w' ⟨rfl, rfl⟩) | (go_at_call 18; refine (sBlind_c _ _ _).mono ?_; rintro e w' ⟨rfl, rfl⟩) | (go_at_call 16; refine (sFactor_c _ _).mono ?_; rintro e w' ⟨rfl, rfl⟩))
  go_ret
  exact ⟨rfl, Below.refl _ _⟩
theorem wFnExactSharedOf (a b : Int) (w : World) : Calls Try.prog 7 #[.int .i64 a, .int .i64 b] w fun e w' => e = .returned (.bool true) ∧ Below w.heap.size w w' := by
  go_enter Try.func7, Try.ntmps7
  go_wp2_with (first | (go_at_call 21; refine (public_c _ _).mono ?_; rintro e w' ⟨rfl, rfl⟩) | (go_at_call 23; refine (shared_c _ _ _).mono ?_; rintro e w' ⟨rfl, rfl⟩) | (go_at_call 19; refine (blind_c _ _ _).mono ?_; rintro e w' ⟨rfl, rfl⟩) | (go_at_call 17; refine (factor_c _ _).mono ?_; rintro e w' ⟨rfl, rfl⟩) | (go_at_call 20; refine (sPublic_c _ _).mono ?_; rintro e w' ⟨rfl, rfl⟩) | (go_at_call 22; refine (sShared_c _ _ _).mono ?_; rintro e w' ⟨rfl, rfl⟩) | (go_at_call 18; refine (sBlind_c _ _ _).mono ?_; rintro e w' ⟨rfl, rfl⟩) | (go_at_call 16; refine (sFactor_c _ _).mono ?_; rintro e w' ⟨rfl, rfl⟩))
  go_ret
  exact ⟨rfl, Below.refl _ _⟩
set_option maxHeartbeats 800000 in
theorem wFnExactConstants (w : World) : Calls Try.prog 3 #[] w fun e w' => e = .returned (.bool true) ∧ Below w.heap.size w w' := by
  go_enter Try.func3, Try.ntmps3
  go_wp2
  go_ret
  exact ⟨rfl, Below.refl _ _⟩

theorem wFnFactor (A : Option Addr) (n c : Nat) (xs : List Int) (w : World) (hs : SlR .u8 w 0 w.heap.size A n xs) (hl : n ≤ c) (hc : c ≤ 9223372036854775807) (hb : ∀ x ∈ xs, 0 ≤ x ∧ x ≤ 255) : Calls Try.prog 8 #[.slice A n c] w fun e w' => e = .returned (.bool true) ∧ Below w.heap.size w w' := by
  by_cases hbig : 1048576 < n
  · go_enter Try.func8, Try.ntmps8
    go_wp2
    go_ret
    exact ⟨rfl, Below.refl _ _⟩
  · go_enter Try.func8, Try.ntmps8
    go_wp2_with fail
    refine (drawFactorOf_c A n c xs w hs hb hl hc).mono ?_
    rintro e w1 ⟨x, rfl, hb1⟩
    cases hx : elB x with
    | false =>
      have hz : facP x = 0 := by simp [facP, hx]
      rcases elB_not.1 hx with h | h
      · go_wp2_with (first | (go_at_call 21; refine (public_c _ _).mono ?_; rintro e w' ⟨rfl, rfl⟩) | (go_at_call 23; refine (shared_c _ _ _).mono ?_; rintro e w' ⟨rfl, rfl⟩) | (go_at_call 19; refine (blind_c _ _ _).mono ?_; rintro e w' ⟨rfl, rfl⟩) | (go_at_call 17; refine (factor_c _ _).mono ?_; rintro e w' ⟨rfl, rfl⟩) | (go_at_call 20; refine (sPublic_c _ _).mono ?_; rintro e w' ⟨rfl, rfl⟩) | (go_at_call 22; refine (sShared_c _ _ _).mono ?_; rintro e w' ⟨rfl, rfl⟩) | (go_at_call 18; refine (sBlind_c _ _ _).mono ?_; rintro e w' ⟨rfl, rfl⟩) | (go_at_call 16; refine (sFactor_c _ _).mono ?_; rintro e w' ⟨rfl, rfl⟩))
        go_ret
        exact ⟨ret_b (by first | rfl | (simp; omega)), hb1⟩
      · go_wp2_with (first | (go_at_call 21; refine (public_c _ _).mono ?_; rintro e w' ⟨rfl, rfl⟩) | (go_at_call 23; refine (shared_c _ _ _).mono ?_; rintro e w' ⟨rfl, rfl⟩) | (go_at_call 19; refine (blind_c _ _ _).mono ?_; rintro e w' ⟨rfl, rfl⟩) | (go_at_call 17; refine (factor_c _ _).mono ?_; rintro e w' ⟨rfl, rfl⟩) | (go_at_call 20; refine (sPublic_c _ _).mono ?_; rintro e w' ⟨rfl, rfl⟩) | (go_at_call 22; refine (sShared_c _ _ _).mono ?_; rintro e w' ⟨rfl, rfl⟩) | (go_at_call 18; refine (sBlind_c _ _ _).mono ?_; rintro e w' ⟨rfl, rfl⟩) | (go_at_call 16; refine (sFactor_c _ _).mono ?_; rintro e w' ⟨rfl, rfl⟩))
        go_ret
        exact ⟨ret_b (by first | rfl | (simp; omega)), hb1⟩
    | true =>
      obtain ⟨h1, h2⟩ := elB_iff.1 hx
      obtain ⟨h3, h4⟩ := elB_iff.1 (facP_el hx)
      go_wp2_with (first | (go_at_call 21; refine (public_c _ _).mono ?_; rintro e w' ⟨rfl, rfl⟩) | (go_at_call 23; refine (shared_c _ _ _).mono ?_; rintro e w' ⟨rfl, rfl⟩) | (go_at_call 19; refine (blind_c _ _ _).mono ?_; rintro e w' ⟨rfl, rfl⟩) | (go_at_call 17; refine (factor_c _ _).mono ?_; rintro e w' ⟨rfl, rfl⟩) | (go_at_call 20; refine (sPublic_c _ _).mono ?_; rintro e w' ⟨rfl, rfl⟩) | (go_at_call 22; refine (sShared_c _ _ _).mono ?_; rintro e w' ⟨rfl, rfl⟩) | (go_at_call 18; refine (sBlind_c _ _ _).mono ?_; rintro e w' ⟨rfl, rfl⟩) | (go_at_call 16; refine (sFactor_c _ _).mono ?_; rintro e w' ⟨rfl, rfl⟩))
      go_ret
      exact ⟨ret_b (by first | rfl | (simp; omega)), hb1⟩
theorem wFnFactorOther (A : Option Addr) (n c : Nat) (xs : List Int) (A2 : Option Addr) (n2 c2 : Nat) (xs2 : List Int) (w : World) (hs : SlR .u8 w 0 w.heap.size A n xs) (hl : n ≤ c) (hc : c ≤ 9223372036854775807) (hb : ∀ x ∈ xs, 0 ≤ x ∧ x ≤ 255) (_hs2 : SlR .u8 w 0 w.heap.size A2 n2 xs2) (_hl2 : n2 ≤ c2) (_hc2 : c2 ≤ 9223372036854775807) (_hb2 : ∀ x ∈ xs2, 0 ≤ x ∧ x ≤ 255) : Calls Try.prog 9 #[.slice A n c, .slice A2 n2 c2] w fun e w' => e = .returned (.bool true) ∧ Below w.heap.size w w' := by
  by_cases hbig : 1048576 < n
  · go_enter Try.func9, Try.ntmps9
    go_wp2
    go_ret
    exact ⟨rfl, Below.refl _ _⟩
  by_cases hbig2 : 1048576 < n2
  · go_enter Try.func9, Try.ntmps9
    go_wp2
    go_ret
    exact ⟨rfl, Below.refl _ _⟩
  · go_enter Try.func9, Try.ntmps9
    go_wp2_with fail
    refine (drawFactorOf_c A n c xs w hs hb hl hc).mono ?_
    rintro e w1 ⟨x, rfl, hb1⟩
    cases hx : elB x with
    | false =>
      have hz : facP x = 0 := by simp [facP, hx]
      go_wp2_with (first | (go_at_call 21; refine (public_c _ _).mono ?_; rintro e w' ⟨rfl, rfl⟩) | (go_at_call 23; refine (shared_c _ _ _).mono ?_; rintro e w' ⟨rfl, rfl⟩) | (go_at_call 19; refine (blind_c _ _ _).mono ?_; rintro e w' ⟨rfl, rfl⟩) | (go_at_call 17; refine (factor_c _ _).mono ?_; rintro e w' ⟨rfl, rfl⟩) | (go_at_call 20; refine (sPublic_c _ _).mono ?_; rintro e w' ⟨rfl, rfl⟩) | (go_at_call 22; refine (sShared_c _ _ _).mono ?_; rintro e w' ⟨rfl, rfl⟩) | (go_at_call 18; refine (sBlind_c _ _ _).mono ?_; rintro e w' ⟨rfl, rfl⟩) | (go_at_call 16; refine (sFactor_c _ _).mono ?_; rintro e w' ⟨rfl, rfl⟩))
      go_ret
      exact ⟨ret_b (by first | rfl | (simp; omega)), hb1⟩
    | true =>
      obtain ⟨h1, h2⟩ := elB_iff.1 hx
      obtain ⟨h3, h4⟩ := elB_iff.1 (facP_el hx)
      have hz : (facP x == 0) = false := by simp; omega
      go_wp2_with (first | (go_at_call 21; refine (public_c _ _).mono ?_; rintro e w' ⟨rfl, rfl⟩) | (go_at_call 23; refine (shared_c _ _ _).mono ?_; rintro e w' ⟨rfl, rfl⟩) | (go_at_call 19; refine (blind_c _ _ _).mono ?_; rintro e w' ⟨rfl, rfl⟩) | (go_at_call 17; refine (factor_c _ _).mono ?_; rintro e w' ⟨rfl, rfl⟩) | (go_at_call 20; refine (sPublic_c _ _).mono ?_; rintro e w' ⟨rfl, rfl⟩) | (go_at_call 22; refine (sShared_c _ _ _).mono ?_; rintro e w' ⟨rfl, rfl⟩) | (go_at_call 18; refine (sBlind_c _ _ _).mono ?_; rintro e w' ⟨rfl, rfl⟩) | (go_at_call 16; refine (sFactor_c _ _).mono ?_; rintro e w' ⟨rfl, rfl⟩))
      refine (element_c _ _ (by omega) (by omega)).mono ?_
      rintro e w2 ⟨b, rfl, hel, rfl⟩
      by_cases hbx : b = x
      · subst hbx
        go_wp2_with (first | (go_at_call 21; refine (public_c _ _).mono ?_; rintro e w' ⟨rfl, rfl⟩) | (go_at_call 23; refine (shared_c _ _ _).mono ?_; rintro e w' ⟨rfl, rfl⟩) | (go_at_call 19; refine (blind_c _ _ _).mono ?_; rintro e w' ⟨rfl, rfl⟩) | (go_at_call 17; refine (factor_c _ _).mono ?_; rintro e w' ⟨rfl, rfl⟩) | (go_at_call 20; refine (sPublic_c _ _).mono ?_; rintro e w' ⟨rfl, rfl⟩) | (go_at_call 22; refine (sShared_c _ _ _).mono ?_; rintro e w' ⟨rfl, rfl⟩) | (go_at_call 18; refine (sBlind_c _ _ _).mono ?_; rintro e w' ⟨rfl, rfl⟩) | (go_at_call 16; refine (sFactor_c _ _).mono ?_; rintro e w' ⟨rfl, rfl⟩))
        go_ret
        exact ⟨ret_b (by first | rfl | (simp; omega)), hb1⟩
      · have e1 : (b == x) = false := by simpa using hbx
        have e2 : (facP b != facP x) = true := by simpa using fun e => hbx (facP_inj hel hx e)
        clear hbx
        go_wp2_with (first | (go_at_call 21; refine (public_c _ _).mono ?_; rintro e w' ⟨rfl, rfl⟩) | (go_at_call 23; refine (shared_c _ _ _).mono ?_; rintro e w' ⟨rfl, rfl⟩) | (go_at_call 19; refine (blind_c _ _ _).mono ?_; rintro e w' ⟨rfl, rfl⟩) | (go_at_call 17; refine (factor_c _ _).mono ?_; rintro e w' ⟨rfl, rfl⟩) | (go_at_call 20; refine (sPublic_c _ _).mono ?_; rintro e w' ⟨rfl, rfl⟩) | (go_at_call 22; refine (sShared_c _ _ _).mono ?_; rintro e w' ⟨rfl, rfl⟩) | (go_at_call 18; refine (sBlind_c _ _ _).mono ?_; rintro e w' ⟨rfl, rfl⟩) | (go_at_call 16; refine (sFactor_c _ _).mono ?_; rintro e w' ⟨rfl, rfl⟩))
        go_ret
        exact ⟨ret_b (by first | rfl | (simp; omega)), hb1⟩
theorem wFnPublic (A : Option Addr) (n c : Nat) (xs : List Int) (A2 : Option Addr) (n2 c2 : Nat) (xs2 : List Int) (w : World) (hs : SlR .u8 w 0 w.heap.size A n xs) (hl : n ≤ c) (hc : c ≤ 9223372036854775807) (hb : ∀ x ∈ xs, 0 ≤ x ∧ x ≤ 255) (_hs2 : SlR .u8 w 0 w.heap.size A2 n2 xs2) (_hl2 : n2 ≤ c2) (_hc2 : c2 ≤ 9223372036854775807) (_hb2 : ∀ x ∈ xs2, 0 ≤ x ∧ x ≤ 255) : Calls Try.prog 10 #[.slice A n c, .slice A2 n2 c2] w fun e w' => e = .returned (.bool true) ∧ Below w.heap.size w w' := by
  by_cases hbig : 1048576 < n
  · go_enter Try.func10, Try.ntmps10
    go_wp2
    go_ret
    exact ⟨rfl, Below.refl _ _⟩
  by_cases hbig2 : 1048576 < n2
  · go_enter Try.func10, Try.ntmps10
    go_wp2
    go_ret
    exact ⟨rfl, Below.refl _ _⟩
  · go_enter Try.func10, Try.ntmps10
    go_wp2_with fail
    refine (drawPublicOf_c A n c xs w hs hb hl hc).mono ?_
    rintro e w1 ⟨x, rfl, hb1⟩
    cases hx : elB x with
    | false =>
      have hz : mulP x 5 = 0 := by simp [mulP, hx]
      go_wp2_with (first | (go_at_call 21; refine (public_c _ _).mono ?_; rintro e w' ⟨rfl, rfl⟩) | (go_at_call 23; refine (shared_c _ _ _).mono ?_; rintro e w' ⟨rfl, rfl⟩) | (go_at_call 19; refine (blind_c _ _ _).mono ?_; rintro e w' ⟨rfl, rfl⟩) | (go_at_call 17; refine (factor_c _ _).mono ?_; rintro e w' ⟨rfl, rfl⟩) | (go_at_call 20; refine (sPublic_c _ _).mono ?_; rintro e w' ⟨rfl, rfl⟩) | (go_at_call 22; refine (sShared_c _ _ _).mono ?_; rintro e w' ⟨rfl, rfl⟩) | (go_at_call 18; refine (sBlind_c _ _ _).mono ?_; rintro e w' ⟨rfl, rfl⟩) | (go_at_call 16; refine (sFactor_c _ _).mono ?_; rintro e w' ⟨rfl, rfl⟩))
      go_ret
      exact ⟨ret_b (by first | rfl | (simp; omega)), hb1⟩
    | true =>
      obtain ⟨h1, h2⟩ := elB_iff.1 hx
      obtain ⟨h3, h4⟩ := elB_iff.1 (mulP_el hx el_five)
      have hz : (mulP x 5 == 0) = false := by simp; omega
      go_wp2_with (first | (go_at_call 21; refine (public_c _ _).mono ?_; rintro e w' ⟨rfl, rfl⟩) | (go_at_call 23; refine (shared_c _ _ _).mono ?_; rintro e w' ⟨rfl, rfl⟩) | (go_at_call 19; refine (blind_c _ _ _).mono ?_; rintro e w' ⟨rfl, rfl⟩) | (go_at_call 17; refine (factor_c _ _).mono ?_; rintro e w' ⟨rfl, rfl⟩) | (go_at_call 20; refine (sPublic_c _ _).mono ?_; rintro e w' ⟨rfl, rfl⟩) | (go_at_call 22; refine (sShared_c _ _ _).mono ?_; rintro e w' ⟨rfl, rfl⟩) | (go_at_call 18; refine (sBlind_c _ _ _).mono ?_; rintro e w' ⟨rfl, rfl⟩) | (go_at_call 16; refine (sFactor_c _ _).mono ?_; rintro e w' ⟨rfl, rfl⟩))
      refine (element_c _ _ (by omega) (by omega)).mono ?_
      rintro e w2 ⟨b, rfl, hel, rfl⟩
      by_cases hbx : b = x
      · subst hbx
        go_wp2_with (first | (go_at_call 21; refine (public_c _ _).mono ?_; rintro e w' ⟨rfl, rfl⟩) | (go_at_call 23; refine (shared_c _ _ _).mono ?_; rintro e w' ⟨rfl, rfl⟩) | (go_at_call 19; refine (blind_c _ _ _).mono ?_; rintro e w' ⟨rfl, rfl⟩) | (go_at_call 17; refine (factor_c _ _).mono ?_; rintro e w' ⟨rfl, rfl⟩) | (go_at_call 20; refine (sPublic_c _ _).mono ?_; rintro e w' ⟨rfl, rfl⟩) | (go_at_call 22; refine (sShared_c _ _ _).mono ?_; rintro e w' ⟨rfl, rfl⟩) | (go_at_call 18; refine (sBlind_c _ _ _).mono ?_; rintro e w' ⟨rfl, rfl⟩) | (go_at_call 16; refine (sFactor_c _ _).mono ?_; rintro e w' ⟨rfl, rfl⟩))
        go_ret
        exact ⟨ret_b (by first | rfl | (simp; omega)), hb1⟩
      · have e1 : (b == x) = false := by simpa using hbx
        have e2 : (mulP b 5 == mulP x 5) = false := by simpa using fun e => hbx ((mulP_inj el_five hel hx).1 (by rw [mulP_comm 5, mulP_comm 5]; exact e))
        clear hbx
        go_wp2_with (first | (go_at_call 21; refine (public_c _ _).mono ?_; rintro e w' ⟨rfl, rfl⟩) | (go_at_call 23; refine (shared_c _ _ _).mono ?_; rintro e w' ⟨rfl, rfl⟩) | (go_at_call 19; refine (blind_c _ _ _).mono ?_; rintro e w' ⟨rfl, rfl⟩) | (go_at_call 17; refine (factor_c _ _).mono ?_; rintro e w' ⟨rfl, rfl⟩) | (go_at_call 20; refine (sPublic_c _ _).mono ?_; rintro e w' ⟨rfl, rfl⟩) | (go_at_call 22; refine (sShared_c _ _ _).mono ?_; rintro e w' ⟨rfl, rfl⟩) | (go_at_call 18; refine (sBlind_c _ _ _).mono ?_; rintro e w' ⟨rfl, rfl⟩) | (go_at_call 16; refine (sFactor_c _ _).mono ?_; rintro e w' ⟨rfl, rfl⟩))
        go_ret
        exact ⟨ret_b (by first | rfl | (simp; omega)), hb1⟩
theorem wFnShared (A : Option Addr) (n c : Nat) (xs : List Int) (A2 : Option Addr) (n2 c2 : Nat) (xs2 : List Int) (w : World) (hs : SlR .u8 w 0 w.heap.size A n xs) (hl : n ≤ c) (hc : c ≤ 9223372036854775807) (hb : ∀ x ∈ xs, 0 ≤ x ∧ x ≤ 255) (_hs2 : SlR .u8 w 0 w.heap.size A2 n2 xs2) (_hl2 : n2 ≤ c2) (_hc2 : c2 ≤ 9223372036854775807) (_hb2 : ∀ x ∈ xs2, 0 ≤ x ∧ x ≤ 255) : Calls Try.prog 11 #[.slice A n c, .slice A2 n2 c2] w fun e w' => e = .returned (.bool true) ∧ Below w.heap.size w w' := by
  by_cases hbig : 1048576 < n
  · go_enter Try.func11, Try.ntmps11
    go_wp2
    go_ret
    exact ⟨rfl, Below.refl _ _⟩
  by_cases hbig2 : 1048576 < n2
  · go_enter Try.func11, Try.ntmps11
    go_wp2
    go_ret
    exact ⟨rfl, Below.refl _ _⟩
  · go_enter Try.func11, Try.ntmps11
    go_wp2_with fail
    refine (drawPublicOf_c A n c xs w hs hb hl hc).mono ?_
    rintro e w1 ⟨x, rfl, hb1⟩
    cases hx : elB x with
    | false =>
      have hz : mulP x 5 = 0 := by simp [mulP, hx]
      go_wp2_with (first | (go_at_call 21; refine (public_c _ _).mono ?_; rintro e w' ⟨rfl, rfl⟩) | (go_at_call 23; refine (shared_c _ _ _).mono ?_; rintro e w' ⟨rfl, rfl⟩) | (go_at_call 19; refine (blind_c _ _ _).mono ?_; rintro e w' ⟨rfl, rfl⟩) | (go_at_call 17; refine (factor_c _ _).mono ?_; rintro e w' ⟨rfl, rfl⟩) | (go_at_call 20; refine (sPublic_c _ _).mono ?_; rintro e w' ⟨rfl, rfl⟩) | (go_at_call 22; refine (sShared_c _ _ _).mono ?_; rintro e w' ⟨rfl, rfl⟩) | (go_at_call 18; refine (sBlind_c _ _ _).mono ?_; rintro e w' ⟨rfl, rfl⟩) | (go_at_call 16; refine (sFactor_c _ _).mono ?_; rintro e w' ⟨rfl, rfl⟩))
      go_ret
      exact ⟨ret_b (by first | rfl | (simp; omega)), hb1⟩
    | true =>
      obtain ⟨h1, h2⟩ := elB_iff.1 hx
      obtain ⟨h3, h4⟩ := elB_iff.1 (mulP_el hx el_five)
      have hz : (mulP x 5 == 0) = false := by simp; omega
      go_wp2_with (first | (go_at_call 21; refine (public_c _ _).mono ?_; rintro e w' ⟨rfl, rfl⟩) | (go_at_call 23; refine (shared_c _ _ _).mono ?_; rintro e w' ⟨rfl, rfl⟩) | (go_at_call 19; refine (blind_c _ _ _).mono ?_; rintro e w' ⟨rfl, rfl⟩) | (go_at_call 17; refine (factor_c _ _).mono ?_; rintro e w' ⟨rfl, rfl⟩) | (go_at_call 20; refine (sPublic_c _ _).mono ?_; rintro e w' ⟨rfl, rfl⟩) | (go_at_call 22; refine (sShared_c _ _ _).mono ?_; rintro e w' ⟨rfl, rfl⟩) | (go_at_call 18; refine (sBlind_c _ _ _).mono ?_; rintro e w' ⟨rfl, rfl⟩) | (go_at_call 16; refine (sFactor_c _ _).mono ?_; rintro e w' ⟨rfl, rfl⟩))
      refine (element_c _ _ (by omega) (by omega)).mono ?_
      rintro e w2 ⟨b, rfl, hel, rfl⟩
      have e1 : mulP b (mulP x 5) = mulP x (mulP b 5) := by rw [← mulP_assoc hel hx el_five, mulP_comm b x, mulP_assoc hx hel el_five]
      obtain ⟨h5, h6⟩ := elB_iff.1 (mulP_el hx (mulP_el hel el_five))
      go_wp2_with (first | (go_at_call 21; refine (public_c _ _).mono ?_; rintro e w' ⟨rfl, rfl⟩) | (go_at_call 23; refine (shared_c _ _ _).mono ?_; rintro e w' ⟨rfl, rfl⟩) | (go_at_call 19; refine (blind_c _ _ _).mono ?_; rintro e w' ⟨rfl, rfl⟩) | (go_at_call 17; refine (factor_c _ _).mono ?_; rintro e w' ⟨rfl, rfl⟩) | (go_at_call 20; refine (sPublic_c _ _).mono ?_; rintro e w' ⟨rfl, rfl⟩) | (go_at_call 22; refine (sShared_c _ _ _).mono ?_; rintro e w' ⟨rfl, rfl⟩) | (go_at_call 18; refine (sBlind_c _ _ _).mono ?_; rintro e w' ⟨rfl, rfl⟩) | (go_at_call 16; refine (sFactor_c _ _).mono ?_; rintro e w' ⟨rfl, rfl⟩))
      go_ret
      exact ⟨ret_b (by first | rfl | (simp; omega)), hb1⟩
theorem wFnSharedOther (A : Option Addr) (n c : Nat) (xs : List Int) (A2 : Option Addr) (n2 c2 : Nat) (xs2 : List Int) (w : World) (hs : SlR .u8 w 0 w.heap.size A n xs) (hl : n ≤ c) (hc : c ≤ 9223372036854775807) (hb : ∀ x ∈ xs, 0 ≤ x ∧ x ≤ 255) (_hs2 : SlR .u8 w 0 w.heap.size A2 n2 xs2) (_hl2 : n2 ≤ c2) (_hc2 : c2 ≤ 9223372036854775807) (_hb2 : ∀ x ∈ xs2, 0 ≤ x ∧ x ≤ 255) : Calls Try.prog 12 #[.slice A n c, .slice A2 n2 c2] w fun e w' => e = .returned (.bool true) ∧ Below w.heap.size w w' := by
  by_cases hbig : 1048576 < n
  · go_enter Try.func12, Try.ntmps12
    go_wp2
    go_ret
    exact ⟨rfl, Below.refl _ _⟩
  by_cases hbig2 : 1048576 < n2
  · go_enter Try.func12, Try.ntmps12
    go_wp2
    go_ret
    exact ⟨rfl, Below.refl _ _⟩
  · go_enter Try.func12, Try.ntmps12
    go_wp2_with fail
    refine (drawSharedOf_c A n c xs w hs hb hl hc).mono ?_
    rintro e w1 ⟨x, y, rfl, hb1⟩
    cases hx : elB x with
    | false =>
      have hz : mulP x y = 0 := by simp [mulP, hx]
      go_wp2_with (first | (go_at_call 21; refine (public_c _ _).mono ?_; rintro e w' ⟨rfl, rfl⟩) | (go_at_call 23; refine (shared_c _ _ _).mono ?_; rintro e w' ⟨rfl, rfl⟩) | (go_at_call 19; refine (blind_c _ _ _).mono ?_; rintro e w' ⟨rfl, rfl⟩) | (go_at_call 17; refine (factor_c _ _).mono ?_; rintro e w' ⟨rfl, rfl⟩) | (go_at_call 20; refine (sPublic_c _ _).mono ?_; rintro e w' ⟨rfl, rfl⟩) | (go_at_call 22; refine (sShared_c _ _ _).mono ?_; rintro e w' ⟨rfl, rfl⟩) | (go_at_call 18; refine (sBlind_c _ _ _).mono ?_; rintro e w' ⟨rfl, rfl⟩) | (go_at_call 16; refine (sFactor_c _ _).mono ?_; rintro e w' ⟨rfl, rfl⟩))
      go_ret
      exact ⟨ret_b (by first | rfl | (simp; omega)), hb1⟩
    | true =>
    cases hy : elB y with
    | false =>
      have hz : mulP x y = 0 := by simp [mulP, hy]
      go_wp2_with (first | (go_at_call 21; refine (public_c _ _).mono ?_; rintro e w' ⟨rfl, rfl⟩) | (go_at_call 23; refine (shared_c _ _ _).mono ?_; rintro e w' ⟨rfl, rfl⟩) | (go_at_call 19; refine (blind_c _ _ _).mono ?_; rintro e w' ⟨rfl, rfl⟩) | (go_at_call 17; refine (factor_c _ _).mono ?_; rintro e w' ⟨rfl, rfl⟩) | (go_at_call 20; refine (sPublic_c _ _).mono ?_; rintro e w' ⟨rfl, rfl⟩) | (go_at_call 22; refine (sShared_c _ _ _).mono ?_; rintro e w' ⟨rfl, rfl⟩) | (go_at_call 18; refine (sBlind_c _ _ _).mono ?_; rintro e w' ⟨rfl, rfl⟩) | (go_at_call 16; refine (sFactor_c _ _).mono ?_; rintro e w' ⟨rfl, rfl⟩))
      go_ret
      exact ⟨ret_b (by first | rfl | (simp; omega)), hb1⟩
    | true =>
      obtain ⟨h1, h2⟩ := elB_iff.1 hx
      obtain ⟨h1', h2'⟩ := elB_iff.1 hy
      have hp := mulP_el hx hy
      obtain ⟨h3, h4⟩ := elB_iff.1 hp
      have hz : (mulP x y == 0) = false := by simp; omega
      go_wp2_with (first | (go_at_call 21; refine (public_c _ _).mono ?_; rintro e w' ⟨rfl, rfl⟩) | (go_at_call 23; refine (shared_c _ _ _).mono ?_; rintro e w' ⟨rfl, rfl⟩) | (go_at_call 19; refine (blind_c _ _ _).mono ?_; rintro e w' ⟨rfl, rfl⟩) | (go_at_call 17; refine (factor_c _ _).mono ?_; rintro e w' ⟨rfl, rfl⟩) | (go_at_call 20; refine (sPublic_c _ _).mono ?_; rintro e w' ⟨rfl, rfl⟩) | (go_at_call 22; refine (sShared_c _ _ _).mono ?_; rintro e w' ⟨rfl, rfl⟩) | (go_at_call 18; refine (sBlind_c _ _ _).mono ?_; rintro e w' ⟨rfl, rfl⟩) | (go_at_call 16; refine (sFactor_c _ _).mono ?_; rintro e w' ⟨rfl, rfl⟩))
      refine (element_c _ _ (by omega) (by omega)).mono ?_
      rintro e w2 ⟨b, rfl, hel, rfl⟩
      by_cases hbx : b = y
      · subst hbx
        go_wp2_with (first | (go_at_call 21; refine (public_c _ _).mono ?_; rintro e w' ⟨rfl, rfl⟩) | (go_at_call 23; refine (shared_c _ _ _).mono ?_; rintro e w' ⟨rfl, rfl⟩) | (go_at_call 19; refine (blind_c _ _ _).mono ?_; rintro e w' ⟨rfl, rfl⟩) | (go_at_call 17; refine (factor_c _ _).mono ?_; rintro e w' ⟨rfl, rfl⟩) | (go_at_call 20; refine (sPublic_c _ _).mono ?_; rintro e w' ⟨rfl, rfl⟩) | (go_at_call 22; refine (sShared_c _ _ _).mono ?_; rintro e w' ⟨rfl, rfl⟩) | (go_at_call 18; refine (sBlind_c _ _ _).mono ?_; rintro e w' ⟨rfl, rfl⟩) | (go_at_call 16; refine (sFactor_c _ _).mono ?_; rintro e w' ⟨rfl, rfl⟩))
        go_ret
        exact ⟨ret_b (by first | rfl | (simp; omega)), hb1⟩
      · have e1 : (b == y) = false := by simpa using hbx
        have e2 : (mulP x b == mulP x y) = false := by simpa using fun e => hbx ((mulP_inj hx hel hy).1 e)
        clear hbx
        go_wp2_with (first | (go_at_call 21; refine (public_c _ _).mono ?_; rintro e w' ⟨rfl, rfl⟩) | (go_at_call 23; refine (shared_c _ _ _).mono ?_; rintro e w' ⟨rfl, rfl⟩) | (go_at_call 19; refine (blind_c _ _ _).mono ?_; rintro e w' ⟨rfl, rfl⟩) | (go_at_call 17; refine (factor_c _ _).mono ?_; rintro e w' ⟨rfl, rfl⟩) | (go_at_call 20; refine (sPublic_c _ _).mono ?_; rintro e w' ⟨rfl, rfl⟩) | (go_at_call 22; refine (sShared_c _ _ _).mono ?_; rintro e w' ⟨rfl, rfl⟩) | (go_at_call 18; refine (sBlind_c _ _ _).mono ?_; rintro e w' ⟨rfl, rfl⟩) | (go_at_call 16; refine (sFactor_c _ _).mono ?_; rintro e w' ⟨rfl, rfl⟩))
        go_ret
        exact ⟨ret_b (by first | rfl | (simp; omega)), hb1⟩
theorem wFnBlindShared (A : Option Addr) (n c : Nat) (xs : List Int) (A2 : Option Addr) (n2 c2 : Nat) (xs2 : List Int) (w : World) (hs : SlR .u8 w 0 w.heap.size A n xs) (hl : n ≤ c) (hc : c ≤ 9223372036854775807) (hb : ∀ x ∈ xs, 0 ≤ x ∧ x ≤ 255) (_hs2 : SlR .u8 w 0 w.heap.size A2 n2 xs2) (_hl2 : n2 ≤ c2) (_hc2 : c2 ≤ 9223372036854775807) (_hb2 : ∀ x ∈ xs2, 0 ≤ x ∧ x ≤ 255) : Calls Try.prog 15 #[.slice A n c, .slice A2 n2 c2] w fun e w' => e = .returned (.bool true) ∧ Below w.heap.size w w' := by
  by_cases hbig : 1048576 < n
  · go_enter Try.func15, Try.ntmps15
    go_wp2
    go_ret
    exact ⟨rfl, Below.refl _ _⟩
  by_cases hbig2 : 1048576 < n2
  · go_enter Try.func15, Try.ntmps15
    go_wp2
    go_ret
    exact ⟨rfl, Below.refl _ _⟩
  · go_enter Try.func15, Try.ntmps15
    go_wp2_with fail
    refine (drawBlindOf_c A n c xs w hs hb hl hc).mono ?_
    rintro e w1 ⟨x, y, rfl, hb1⟩
    cases hx : elB x with
    | false =>
      have hz : mulP x y = 0 := by simp [mulP, hx]
      go_wp2_with (first | (go_at_call 21; refine (public_c _ _).mono ?_; rintro e w' ⟨rfl, rfl⟩) | (go_at_call 23; refine (shared_c _ _ _).mono ?_; rintro e w' ⟨rfl, rfl⟩) | (go_at_call 19; refine (blind_c _ _ _).mono ?_; rintro e w' ⟨rfl, rfl⟩) | (go_at_call 17; refine (factor_c _ _).mono ?_; rintro e w' ⟨rfl, rfl⟩) | (go_at_call 20; refine (sPublic_c _ _).mono ?_; rintro e w' ⟨rfl, rfl⟩) | (go_at_call 22; refine (sShared_c _ _ _).mono ?_; rintro e w' ⟨rfl, rfl⟩) | (go_at_call 18; refine (sBlind_c _ _ _).mono ?_; rintro e w' ⟨rfl, rfl⟩) | (go_at_call 16; refine (sFactor_c _ _).mono ?_; rintro e w' ⟨rfl, rfl⟩))
      go_ret
      exact ⟨ret_b (by first | rfl | (simp; omega)), hb1⟩
    | true =>
    cases hy : elB y with
    | false =>
      have hz : mulP x y = 0 := by simp [mulP, hy]
      go_wp2_with (first | (go_at_call 21; refine (public_c _ _).mono ?_; rintro e w' ⟨rfl, rfl⟩) | (go_at_call 23; refine (shared_c _ _ _).mono ?_; rintro e w' ⟨rfl, rfl⟩) | (go_at_call 19; refine (blind_c _ _ _).mono ?_; rintro e w' ⟨rfl, rfl⟩) | (go_at_call 17; refine (factor_c _ _).mono ?_; rintro e w' ⟨rfl, rfl⟩) | (go_at_call 20; refine (sPublic_c _ _).mono ?_; rintro e w' ⟨rfl, rfl⟩) | (go_at_call 22; refine (sShared_c _ _ _).mono ?_; rintro e w' ⟨rfl, rfl⟩) | (go_at_call 18; refine (sBlind_c _ _ _).mono ?_; rintro e w' ⟨rfl, rfl⟩) | (go_at_call 16; refine (sFactor_c _ _).mono ?_; rintro e w' ⟨rfl, rfl⟩))
      go_ret
      exact ⟨ret_b (by first | rfl | (simp; omega)), hb1⟩
    | true =>
      obtain ⟨h1, h2⟩ := elB_iff.1 hx
      obtain ⟨h1', h2'⟩ := elB_iff.1 hy
      have hp := mulP_el hx hy
      obtain ⟨h3, h4⟩ := elB_iff.1 hp
      have hz : (mulP x y == 0) = false := by simp; omega
      go_wp2_with (first | (go_at_call 21; refine (public_c _ _).mono ?_; rintro e w' ⟨rfl, rfl⟩) | (go_at_call 23; refine (shared_c _ _ _).mono ?_; rintro e w' ⟨rfl, rfl⟩) | (go_at_call 19; refine (blind_c _ _ _).mono ?_; rintro e w' ⟨rfl, rfl⟩) | (go_at_call 17; refine (factor_c _ _).mono ?_; rintro e w' ⟨rfl, rfl⟩) | (go_at_call 20; refine (sPublic_c _ _).mono ?_; rintro e w' ⟨rfl, rfl⟩) | (go_at_call 22; refine (sShared_c _ _ _).mono ?_; rintro e w' ⟨rfl, rfl⟩) | (go_at_call 18; refine (sBlind_c _ _ _).mono ?_; rintro e w' ⟨rfl, rfl⟩) | (go_at_call 16; refine (sFactor_c _ _).mono ?_; rintro e w' ⟨rfl, rfl⟩))
      refine (element_c _ _ (by omega) (by omega)).mono ?_
      rintro e w2 ⟨b, rfl, hel, rfl⟩
      have e1 : mulP (mulP b y) x = mulP b (mulP x y) := by rw [mulP_assoc hel hy hx, mulP_comm y x]
      have e2 : mulP (mulP b x) y = mulP b (mulP x y) := mulP_assoc hel hx hy
      go_wp2_with (first | (go_at_call 21; refine (public_c _ _).mono ?_; rintro e w' ⟨rfl, rfl⟩) | (go_at_call 23; refine (shared_c _ _ _).mono ?_; rintro e w' ⟨rfl, rfl⟩) | (go_at_call 19; refine (blind_c _ _ _).mono ?_; rintro e w' ⟨rfl, rfl⟩) | (go_at_call 17; refine (factor_c _ _).mono ?_; rintro e w' ⟨rfl, rfl⟩) | (go_at_call 20; refine (sPublic_c _ _).mono ?_; rintro e w' ⟨rfl, rfl⟩) | (go_at_call 22; refine (sShared_c _ _ _).mono ?_; rintro e w' ⟨rfl, rfl⟩) | (go_at_call 18; refine (sBlind_c _ _ _).mono ?_; rintro e w' ⟨rfl, rfl⟩) | (go_at_call 16; refine (sFactor_c _ _).mono ?_; rintro e w' ⟨rfl, rfl⟩))
      go_ret
      exact ⟨ret_b (by first | rfl | (simp; omega)), hb1⟩
theorem wFnBlindOrder (A : Option Addr) (n c : Nat) (xs : List Int) (A2 : Option Addr) (n2 c2 : Nat) (xs2 : List Int) (w : World) (hs : SlR .u8 w 0 w.heap.size A n xs) (hl : n ≤ c) (hc : c ≤ 9223372036854775807) (hb : ∀ x ∈ xs, 0 ≤ x ∧ x ≤ 255) (_hs2 : SlR .u8 w 0 w.heap.size A2 n2 xs2) (_hl2 : n2 ≤ c2) (_hc2 : c2 ≤ 9223372036854775807) (_hb2 : ∀ x ∈ xs2, 0 ≤ x ∧ x ≤ 255) : Calls Try.prog 13 #[.slice A n c, .slice A2 n2 c2] w fun e w' => e = .returned (.bool true) ∧ Below w.heap.size w w' := by
  by_cases hbig : 1048576 < n
  · go_enter Try.func13, Try.ntmps13
    go_wp2
    go_ret
    exact ⟨rfl, Below.refl _ _⟩
  by_cases hbig2 : 1048576 < n2
  · go_enter Try.func13, Try.ntmps13
    go_wp2
    go_ret
    exact ⟨rfl, Below.refl _ _⟩
  · go_enter Try.func13, Try.ntmps13
    go_wp2_with fail
    refine (drawBlindOf_c A n c xs w hs hb hl hc).mono ?_
    rintro e w1 ⟨x, y, rfl, hb1⟩
    cases hx : elB x with
    | false =>
      have hz : mulP x y = 0 := by simp [mulP, hx]
      go_wp2_with (first | (go_at_call 21; refine (public_c _ _).mono ?_; rintro e w' ⟨rfl, rfl⟩) | (go_at_call 23; refine (shared_c _ _ _).mono ?_; rintro e w' ⟨rfl, rfl⟩) | (go_at_call 19; refine (blind_c _ _ _).mono ?_; rintro e w' ⟨rfl, rfl⟩) | (go_at_call 17; refine (factor_c _ _).mono ?_; rintro e w' ⟨rfl, rfl⟩) | (go_at_call 20; refine (sPublic_c _ _).mono ?_; rintro e w' ⟨rfl, rfl⟩) | (go_at_call 22; refine (sShared_c _ _ _).mono ?_; rintro e w' ⟨rfl, rfl⟩) | (go_at_call 18; refine (sBlind_c _ _ _).mono ?_; rintro e w' ⟨rfl, rfl⟩) | (go_at_call 16; refine (sFactor_c _ _).mono ?_; rintro e w' ⟨rfl, rfl⟩))
      go_ret
      exact ⟨ret_b (by first | rfl | (simp; omega)), hb1⟩
    | true =>
    cases hy : elB y with
    | false =>
      have hz : mulP x y = 0 := by simp [mulP, hy]
      go_wp2_with (first | (go_at_call 21; refine (public_c _ _).mono ?_; rintro e w' ⟨rfl, rfl⟩) | (go_at_call 23; refine (shared_c _ _ _).mono ?_; rintro e w' ⟨rfl, rfl⟩) | (go_at_call 19; refine (blind_c _ _ _).mono ?_; rintro e w' ⟨rfl, rfl⟩) | (go_at_call 17; refine (factor_c _ _).mono ?_; rintro e w' ⟨rfl, rfl⟩) | (go_at_call 20; refine (sPublic_c _ _).mono ?_; rintro e w' ⟨rfl, rfl⟩) | (go_at_call 22; refine (sShared_c _ _ _).mono ?_; rintro e w' ⟨rfl, rfl⟩) | (go_at_call 18; refine (sBlind_c _ _ _).mono ?_; rintro e w' ⟨rfl, rfl⟩) | (go_at_call 16; refine (sFactor_c _ _).mono ?_; rintro e w' ⟨rfl, rfl⟩))
      go_ret
      exact ⟨ret_b (by first | rfl | (simp; omega)), hb1⟩
    | true =>
      obtain ⟨h1, h2⟩ := elB_iff.1 hx
      obtain ⟨h1', h2'⟩ := elB_iff.1 hy
      have hp := mulP_el hx hy
      obtain ⟨h3, h4⟩ := elB_iff.1 hp
      have hz : (mulP x y == 0) = false := by simp; omega
      go_wp2_with (first | (go_at_call 21; refine (public_c _ _).mono ?_; rintro e w' ⟨rfl, rfl⟩) | (go_at_call 23; refine (shared_c _ _ _).mono ?_; rintro e w' ⟨rfl, rfl⟩) | (go_at_call 19; refine (blind_c _ _ _).mono ?_; rintro e w' ⟨rfl, rfl⟩) | (go_at_call 17; refine (factor_c _ _).mono ?_; rintro e w' ⟨rfl, rfl⟩) | (go_at_call 20; refine (sPublic_c _ _).mono ?_; rintro e w' ⟨rfl, rfl⟩) | (go_at_call 22; refine (sShared_c _ _ _).mono ?_; rintro e w' ⟨rfl, rfl⟩) | (go_at_call 18; refine (sBlind_c _ _ _).mono ?_; rintro e w' ⟨rfl, rfl⟩) | (go_at_call 16; refine (sFactor_c _ _).mono ?_; rintro e w' ⟨rfl, rfl⟩))
      refine (element_c _ _ (by omega) (by omega)).mono ?_
      rintro e w2 ⟨b, rfl, hel, rfl⟩
      have e1 : mulP (mulP x b) y = mulP (mulP x y) b := by rw [mulP_assoc hx hel hy, mulP_comm b y, mulP_assoc hx hy hel]
      go_wp2_with (first | (go_at_call 21; refine (public_c _ _).mono ?_; rintro e w' ⟨rfl, rfl⟩) | (go_at_call 23; refine (shared_c _ _ _).mono ?_; rintro e w' ⟨rfl, rfl⟩) | (go_at_call 19; refine (blind_c _ _ _).mono ?_; rintro e w' ⟨rfl, rfl⟩) | (go_at_call 17; refine (factor_c _ _).mono ?_; rintro e w' ⟨rfl, rfl⟩) | (go_at_call 20; refine (sPublic_c _ _).mono ?_; rintro e w' ⟨rfl, rfl⟩) | (go_at_call 22; refine (sShared_c _ _ _).mono ?_; rintro e w' ⟨rfl, rfl⟩) | (go_at_call 18; refine (sBlind_c _ _ _).mono ?_; rintro e w' ⟨rfl, rfl⟩) | (go_at_call 16; refine (sFactor_c _ _).mono ?_; rintro e w' ⟨rfl, rfl⟩))
      go_ret
      exact ⟨ret_b (by first | rfl | (simp; omega)), hb1⟩
theorem wFnBlindOther (A : Option Addr) (n c : Nat) (xs : List Int) (A2 : Option Addr) (n2 c2 : Nat) (xs2 : List Int) (w : World) (hs : SlR .u8 w 0 w.heap.size A n xs) (hl : n ≤ c) (hc : c ≤ 9223372036854775807) (hb : ∀ x ∈ xs, 0 ≤ x ∧ x ≤ 255) (_hs2 : SlR .u8 w 0 w.heap.size A2 n2 xs2) (_hl2 : n2 ≤ c2) (_hc2 : c2 ≤ 9223372036854775807) (_hb2 : ∀ x ∈ xs2, 0 ≤ x ∧ x ≤ 255) : Calls Try.prog 14 #[.slice A n c, .slice A2 n2 c2] w fun e w' => e = .returned (.bool true) ∧ Below w.heap.size w w' := by
  by_cases hbig : 1048576 < n
  · go_enter Try.func14, Try.ntmps14
    go_wp2
    go_ret
    exact ⟨rfl, Below.refl _ _⟩
  by_cases hbig2 : 1048576 < n2
  · go_enter Try.func14, Try.ntmps14
    go_wp2
    go_ret
    exact ⟨rfl, Below.refl _ _⟩
  · go_enter Try.func14, Try.ntmps14
    go_wp2_with fail
    refine (drawBlindOf_c A n c xs w hs hb hl hc).mono ?_
    rintro e w1 ⟨x, y, rfl, hb1⟩
    cases hx : elB x with
    | false =>
      have hz : mulP x y = 0 := by simp [mulP, hx]
      go_wp2_with (first | (go_at_call 21; refine (public_c _ _).mono ?_; rintro e w' ⟨rfl, rfl⟩) | (go_at_call 23; refine (shared_c _ _ _).mono ?_; rintro e w' ⟨rfl, rfl⟩) | (go_at_call 19; refine (blind_c _ _ _).mono ?_; rintro e w' ⟨rfl, rfl⟩) | (go_at_call 17; refine (factor_c _ _).mono ?_; rintro e w' ⟨rfl, rfl⟩) | (go_at_call 20; refine (sPublic_c _ _).mono ?_; rintro e w' ⟨rfl, rfl⟩) | (go_at_call 22; refine (sShared_c _ _ _).mono ?_; rintro e w' ⟨rfl, rfl⟩) | (go_at_call 18; refine (sBlind_c _ _ _).mono ?_; rintro e w' ⟨rfl, rfl⟩) | (go_at_call 16; refine (sFactor_c _ _).mono ?_; rintro e w' ⟨rfl, rfl⟩))
      go_ret
      exact ⟨ret_b (by first | rfl | (simp; omega)), hb1⟩
    | true =>
    cases hy : elB y with
    | false =>
      have hz : mulP x y = 0 := by simp [mulP, hy]
      go_wp2_with (first | (go_at_call 21; refine (public_c _ _).mono ?_; rintro e w' ⟨rfl, rfl⟩) | (go_at_call 23; refine (shared_c _ _ _).mono ?_; rintro e w' ⟨rfl, rfl⟩) | (go_at_call 19; refine (blind_c _ _ _).mono ?_; rintro e w' ⟨rfl, rfl⟩) | (go_at_call 17; refine (factor_c _ _).mono ?_; rintro e w' ⟨rfl, rfl⟩) | (go_at_call 20; refine (sPublic_c _ _).mono ?_; rintro e w' ⟨rfl, rfl⟩) | (go_at_call 22; refine (sShared_c _ _ _).mono ?_; rintro e w' ⟨rfl, rfl⟩) | (go_at_call 18; refine (sBlind_c _ _ _).mono ?_; rintro e w' ⟨rfl, rfl⟩) | (go_at_call 16; refine (sFactor_c _ _).mono ?_; rintro e w' ⟨rfl, rfl⟩))
      go_ret
      exact ⟨ret_b (by first | rfl | (simp; omega)), hb1⟩
    | true =>
      obtain ⟨h1, h2⟩ := elB_iff.1 hx
      obtain ⟨h1', h2'⟩ := elB_iff.1 hy
      have hp := mulP_el hx hy
      obtain ⟨h3, h4⟩ := elB_iff.1 hp
      have hz : (mulP x y == 0) = false := by simp; omega
      go_wp2_with (first | (go_at_call 21; refine (public_c _ _).mono ?_; rintro e w' ⟨rfl, rfl⟩) | (go_at_call 23; refine (shared_c _ _ _).mono ?_; rintro e w' ⟨rfl, rfl⟩) | (go_at_call 19; refine (blind_c _ _ _).mono ?_; rintro e w' ⟨rfl, rfl⟩) | (go_at_call 17; refine (factor_c _ _).mono ?_; rintro e w' ⟨rfl, rfl⟩) | (go_at_call 20; refine (sPublic_c _ _).mono ?_; rintro e w' ⟨rfl, rfl⟩) | (go_at_call 22; refine (sShared_c _ _ _).mono ?_; rintro e w' ⟨rfl, rfl⟩) | (go_at_call 18; refine (sBlind_c _ _ _).mono ?_; rintro e w' ⟨rfl, rfl⟩) | (go_at_call 16; refine (sFactor_c _ _).mono ?_; rintro e w' ⟨rfl, rfl⟩))
      refine (element_c _ _ (by omega) (by omega)).mono ?_
      rintro e w2 ⟨b, rfl, hel, rfl⟩
      have e3 : mulP x 1 = x := by rw [mulP_eq hx (by decide)]; omega
      by_cases hbx : b = y
      · subst hbx
        go_wp2_with (first | (go_at_call 21; refine (public_c _ _).mono ?_; rintro e w' ⟨rfl, rfl⟩) | (go_at_call 23; refine (shared_c _ _ _).mono ?_; rintro e w' ⟨rfl, rfl⟩) | (go_at_call 19; refine (blind_c _ _ _).mono ?_; rintro e w' ⟨rfl, rfl⟩) | (go_at_call 17; refine (factor_c _ _).mono ?_; rintro e w' ⟨rfl, rfl⟩) | (go_at_call 20; refine (sPublic_c _ _).mono ?_; rintro e w' ⟨rfl, rfl⟩) | (go_at_call 22; refine (sShared_c _ _ _).mono ?_; rintro e w' ⟨rfl, rfl⟩) | (go_at_call 18; refine (sBlind_c _ _ _).mono ?_; rintro e w' ⟨rfl, rfl⟩) | (go_at_call 16; refine (sFactor_c _ _).mono ?_; rintro e w' ⟨rfl, rfl⟩))
        go_ret
        exact ⟨ret_b (by first | rfl | (simp; omega)), hb1⟩
      · have e1 : (b == y) = false := by simpa using hbx
        have e2 : (mulP x b == mulP x y) = false := by simpa using fun e => hbx ((mulP_inj hx hel hy).1 e)
        clear hbx
        go_wp2_with (first | (go_at_call 21; refine (public_c _ _).mono ?_; rintro e w' ⟨rfl, rfl⟩) | (go_at_call 23; refine (shared_c _ _ _).mono ?_; rintro e w' ⟨rfl, rfl⟩) | (go_at_call 19; refine (blind_c _ _ _).mono ?_; rintro e w' ⟨rfl, rfl⟩) | (go_at_call 17; refine (factor_c _ _).mono ?_; rintro e w' ⟨rfl, rfl⟩) | (go_at_call 20; refine (sPublic_c _ _).mono ?_; rintro e w' ⟨rfl, rfl⟩) | (go_at_call 22; refine (sShared_c _ _ _).mono ?_; rintro e w' ⟨rfl, rfl⟩) | (go_at_call 18; refine (sBlind_c _ _ _).mono ?_; rintro e w' ⟨rfl, rfl⟩) | (go_at_call 16; refine (sFactor_c _ _).mono ?_; rintro e w' ⟨rfl, rfl⟩))
        go_ret
        exact ⟨ret_b (by first | rfl | (simp; omega)), hb1⟩
end Go.Proofs.Ytkcgckpnafiggaa
