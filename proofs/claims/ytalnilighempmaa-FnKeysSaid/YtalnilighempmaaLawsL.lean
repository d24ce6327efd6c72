/-
  The walk of the statement that sender and mixes share the keys.
  Conditions: the arguments read as lists of bytes.
-/
import Derived.Test.YtalnilighempmaaLawsK
namespace Go.Proofs.Ytalnilighempmaa
open Go Go.RowKit

theorem KeyTo.at_ {s : Int} {xs : List Int} {k : Nat} {x v : Int} {acc : List Int} (h : KeyTo s xs k x acc) (hk : k < xs.length) (hv : v = xs.getD k 0) : (keysL s xs).getD k 0 = mulP x v := by
  obtain ⟨h1, h2, h3⟩ := h
  have hd : xs.drop k = v :: xs.drop (k + 1) := by
    rw [List.drop_eq_getElem_cons hk, hv]; simp [List.getD_eq_getElem?_getD, hk]
  rw [h3, hd, keysL, List.getD_eq_getElem?_getD, List.getElem?_append_right (by omega), h2, Nat.sub_self]
  rfl
def KeysRel (s : Int) (xs : List Int) (n : Nat) (w : World) (xv i : Value) (wr : World) : Prop :=
  ∃ (k : Nat) (x : Int) (acc : List Int), k ≤ n ∧ i = .int .i64 (k : Int) ∧ xv = .int .i64 x ∧ KeyTo s xs k x acc ∧ Below w.heap.size w wr

set_option maxRecDepth 100000 in
set_option maxHeartbeats 1600000 in
theorem wFnKeys (A : Option Addr) (n c : Nat) (xs : List Int) (w : World) (hs : SlR .u8 w 0 w.heap.size A n xs) (hl : n ≤ c) (hc : c ≤ 9223372036854775807) (hb : ∀ x ∈ xs, 0 ≤ x ∧ x ≤ 255) : Calls Try.prog 9 #[.slice A n c] w fun e w' => e = .returned (.bool true) ∧ Below w.heap.size w w' := by
  by_cases hbig : 1048576 < n
  · go_enter Try.func9, Try.ntmps9
    go_wp2
    go_ret
    exact ⟨rfl, Below.refl _ _⟩
  go_enter Try.func9, Try.ntmps9
  go_wp2_with fail
  refine (drawPathKeys_c A n c xs w hs hb hl hc).mono ?_
  rintro e w_1 ⟨A_l, n_l, c_l, xs_l, key, rfl, o_l, b_l, h_1⟩
  have z_1 := h_1.size
  have hB := h_1
  go_wp2_with fail
  refine (pathKeys_c _ _ _ _ _ _ _ _ o_l.read (by omega)).mono ?_
  rintro e w_2 ⟨A_out, n_out, c_out, rfl, o_out, h_2⟩
  have z_2 := h_2.size
  replace o_l := o_l.below h_2 o_l.2.1
  replace hB := hB.trans (h_2.mono hB.size)
  have b_out : n_out ≤ 4194304 := by have := o_out.len; have := keysP_len key xs_l; omega
  go_wp2_with fail
  refine (sPathKeys_c _ _ _ _ _ _ _ _ o_l.read (by omega)).mono ?_
  rintro e w_3 ⟨A_want, n_want, c_want, rfl, o_want, h_3⟩
  have z_3 := h_3.size
  replace o_l := o_l.below h_3 o_l.2.1
  replace o_out := o_out.below h_3 o_out.2.1
  replace hB := hB.trans (h_3.mono hB.size)
  have b_want : n_want ≤ 4194304 := by have := o_want.len; have := keysP_len key xs_l; omega
  cases hok : pathOk key xs_l with
  | false =>
    go_wp2_with fail
    refine (sameInts_t _ _ _ _ _ _ _ _ _ _ _ _ o_out.read o_want.read (by omega)).mono ?_
    rintro e w_4 ⟨rfl, h_4⟩
    have z_4 := h_4.size
    replace o_l := o_l.below h_4 o_l.2.1
    replace o_out := o_out.below h_4 o_out.2.1
    replace o_want := o_want.below h_4 o_want.2.1
    replace hB := hB.trans (h_4.mono hB.size)
    go_wp2_with fail
    refine (sameInts_t _ _ _ _ _ _ _ _ _ _ _ _ o_out.read o_want.read (by omega)).mono ?_
    rintro e w_5 ⟨rfl, h_5⟩
    have z_5 := h_5.size
    replace o_l := o_l.below h_5 o_l.2.1
    replace o_out := o_out.below h_5 o_out.2.1
    replace o_want := o_want.below h_5 o_want.2.1
    replace hB := hB.trans (h_5.mono hB.size)
    go_wp2_with fail
    go_ret
    exact ⟨ret_b (by first | rfl | simp), hB⟩
  | true =>
    have hel : elB key = true ∧ pathB xs_l = true := by simpa [pathOk] using hok
    have hkp : keysP key xs_l = keysL key xs_l := by simp [keysP, hok]
    rw [hkp] at o_out o_want
    have HE := Lib.hid hel.1
    have HP := Lib.hid hel.2
    have hnn : n_l = n_out := by have := o_out.len; have := o_l.len; have := keysL_len key xs_l; omega
    subst hnn
    have hn13 : 1 ≤ n_l ∧ n_l ≤ 3 := by have := (pathB_iff.1 hel.2).2; have := o_l.len; omega
    have hlen := Lib.hid o_l.len
    clear hel hkp hok
    go_wp2_with fail
    refine (sameInts_t _ _ _ _ _ _ _ _ _ _ _ _ o_out.read o_want.read (by omega)).mono ?_
    rintro e w_4 ⟨rfl, h_4⟩
    have z_4 := h_4.size
    replace o_l := o_l.below h_4 o_l.2.1
    replace o_out := o_out.below h_4 o_out.2.1
    replace o_want := o_want.below h_4 o_want.2.1
    replace hB := hB.trans (h_4.mono hB.size)
    have hxa : xs_l.all elB = true := by simp only [List.all_eq_true]; exact (pathB_iff.1 HP.out).1
    have HX := Lib.hid hxa
    clear hxa
    go_wp2_with fail
    go_loopw [9, 10] (fun xv i wr => KeysRel key xs_l n_l w_4 xv i wr) (fun _ i _ => n_l - (intOf i).toNat)
    case atStart => exact ⟨0, key, [], Nat.zero_le _, rfl, rfl, KeyTo.zero HE.out xs_l, Below.refl _ _⟩
    case round =>
      obtain ⟨k, x, acc, hk, rfl, rfl, hkt, hnx⟩ := hrel
      by_cases hlt : k < n_l
      · have s1 := (o_l.below hnx o_l.2.1).read
        have s2 := (o_out.below hnx o_out.2.1).read
        obtain ⟨b, ob, rfl, _, _, hcc⟩ := s1.at_ (by omega)
        obtain ⟨b', ob', rfl, _, _, hcc'⟩ := s2.at_ (by omega)
        have hcell := hcc k hlt
        have hcell' := hcc' k hlt
        obtain ⟨v, hv⟩ : ∃ v, v = xs_l.getD k 0 := ⟨_, rfl⟩
        have hkl : k < xs_l.length := by rw [hlen.out]; exact hlt
        rw [← hv] at hcell
        rw [hkt.at_ hkl hv] at hcell'
        have hve : elB v = true := by rw [hv]; exact all_at HX.out hkl
        have hnext := hkt.next hkl hv hve
        have HK := Lib.hid hnext
        have hi0' : (0 : Int) ≤ (k : Int) := Int.natCast_nonneg _
        have hi1 : (k : Int) < (n_l : Int) := by omega
        have hb1 : (mulP x v != mulP x v) = false := by simp
        clear hcc hcc' hv s1 s2 hkt hnext hve
        go_wp2_with fail
        go_quiet ((first | (go_at_call 58; exact q_left (shared_c _ _ _))))
        go_wp2_with (first | (go_at_call 60; refine (factor_c _ _).mono ?_; rintro e w' ⟨rfl, rfl⟩) | (go_at_call 59; refine (blind_c _ _ _).mono ?_; rintro e w' ⟨rfl, rfl⟩))
        go_roundw
        case rel => exact ⟨k + 1, _, _, by omega, by go_num, rfl, HK.out, below_drewN hnx _⟩
        case measure => simp [intOf]; omega
      · have hkn : k = n_l := by omega
        subst hkn
        have hlb : ¬ ((k : Int) < (k : Int)) := by omega
        have hBd := hB.trans (hnx.mono hB.size)
        clear hkt
        go_wp2_with fail
        go_ret
        exact ⟨ret_b (by first | rfl | simp), hBd⟩
end Go.Proofs.Ytalnilighempmaa
