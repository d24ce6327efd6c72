/-
  The plain functions that the program and the reference compute, on whole numbers and lists, without any program in sight.
  No condition.
-/
namespace Go.Proofs.Ytbkecimhbibnjaa

/-- An element, a secret, a factor or a key: 1 to 996. -/
def elB (n : Int) : Bool := decide (1 ≤ n) && decide (n ≤ 996)
def numB (n : Int) : Bool := decide (0 ≤ n) && decide (n ≤ 990)
def nameB (n : Int) : Bool := decide (0 ≤ n) && decide (n ≤ 7)
def mulP (a b : Int) : Int := if elB a = true ∧ elB b = true then a * b % 997 else 0
def facP (s : Int) : Int := if elB s = true then 1 + (7 * s + 3) % 996 else 0

theorem elB_iff {n : Int} : elB n = true ↔ 1 ≤ n ∧ n ≤ 996 := by simp [elB]
theorem elB_not {n : Int} : elB n = false ↔ n < 1 ∨ 996 < n := by simp [elB]; omega
theorem numB_iff {n : Int} : numB n = true ↔ 0 ≤ n ∧ n ≤ 990 := by simp [numB]
theorem nameB_iff {n : Int} : nameB n = true ↔ 0 ≤ n ∧ n ≤ 7 := by simp [nameB]

theorem mul_pos_prime {a b : Int} (ha : 1 ≤ a ∧ a ≤ 996) (hb : 1 ≤ b ∧ b ≤ 996) : 1 ≤ a * b % 997 := by
  have h0 : 0 ≤ a * b % 997 := Int.emod_nonneg _ (by omega)
  rcases Int.lt_or_eq_of_le h0 with h | h
  · omega
  · exfalso
    have hd : (997 : Int) ∣ a * b := Int.dvd_of_emod_eq_zero h.symm
    have hn : (997 : Nat) ∣ a.toNat * b.toNat := by
      have h2 : ((997 : Nat) : Int) ∣ ((a.toNat * b.toNat : Nat) : Int) := by
        rw [Int.natCast_mul, Int.toNat_of_nonneg (by omega), Int.toNat_of_nonneg (by omega)]
        exact hd
      exact Int.natCast_dvd_natCast.1 h2
    have ha' : a.toNat < 997 := by omega
    have ha1 : 1 ≤ a.toNat := by omega
    have hb' : b.toNat < 997 := by omega
    have hb1 : 1 ≤ b.toNat := by omega
    have hc : Nat.Coprime 997 a.toNat := by
      have hall : ∀ x : Fin 997, x.val = 0 ∨ Nat.gcd 997 x.val = 1 := by decide +kernel
      rcases hall ⟨a.toNat, ha'⟩ with h | h
      · simp at h; omega
      · exact h
    have := Nat.le_of_dvd (by omega) (hc.dvd_of_dvd_mul_left hn)
    omega

theorem mod997_lt (a : Int) : a % 997 ≤ 996 := by omega

theorem mulP_eq {a b : Int} (ha : elB a = true) (hb : elB b = true) : mulP a b = a * b % 997 := by simp [mulP, ha, hb]
theorem mulP_el {a b : Int} (ha : elB a = true) (hb : elB b = true) : elB (mulP a b) = true := by
  rw [mulP_eq ha hb, elB_iff]
  exact ⟨mul_pos_prime (elB_iff.1 ha) (elB_iff.1 hb), by omega⟩
theorem facP_eq {s : Int} (h : elB s = true) : facP s = 1 + (7 * s + 3) % 996 := by simp [facP, h]
theorem facP_el {s : Int} (h : elB s = true) : elB (facP s) = true := by
  rw [facP_eq h, elB_iff]; omega
theorem mulP_bd (a b : Int) : 0 ≤ mulP a b ∧ mulP a b ≤ 996 := by
  unfold mulP; split <;> omega
theorem facP_bd (a : Int) : 0 ≤ facP a ∧ facP a ≤ 996 := by
  unfold facP; split <;> omega
theorem mulP_zero {a b : Int} (h : mulP a b = 0) : elB a = false ∨ elB b = false := by
  cases ha : elB a with
  | false => exact .inl rfl
  | true => cases hb : elB b with
    | false => exact .inr rfl
    | true => have := elB_iff.1 (mulP_el ha hb); omega

/-- One factor can be divided out: 997 is a prime. -/
theorem mul_cancel {a x y : Int} (ha : 1 ≤ a ∧ a ≤ 996) (hx : 1 ≤ x ∧ x ≤ 996) (hy : 1 ≤ y ∧ y ≤ 996) (h : a * x % 997 = a * y % 997) : x = y := by
  rcases Int.lt_trichotomy x y with hlt | heq | hgt
  · have h1 := mul_pos_prime ha (b := y - x) (by omega)
    have h2 : a * (y - x) % 997 = 0 := by rw [Int.mul_sub]; omega
    omega
  · exact heq
  · have h1 := mul_pos_prime ha (b := x - y) (by omega)
    have h2 : a * (x - y) % 997 = 0 := by rw [Int.mul_sub]; omega
    omega

theorem mod_mul_mod (a b c : Int) : a * b % 997 * c % 997 = a * (b * c % 997) % 997 := by
  rw [Int.mul_emod, Int.emod_emod_of_dvd _ (Int.dvd_refl _), ← Int.mul_emod, Int.mul_assoc, Int.mul_emod a (b * c % 997), Int.emod_emod_of_dvd _ (Int.dvd_refl _), ← Int.mul_emod]

theorem mulP_comm (a b : Int) : mulP a b = mulP b a := by
  unfold mulP
  rw [Int.mul_comm b a]
  by_cases h : elB a = true ∧ elB b = true
  · rw [if_pos h, if_pos ⟨h.2, h.1⟩]
  · rw [if_neg h, if_neg fun g => h ⟨g.2, g.1⟩]
theorem mulP_assoc {a b c : Int} (ha : elB a = true) (hb : elB b = true) (hc : elB c = true) : mulP (mulP a b) c = mulP a (mulP b c) := by
  rw [mulP_eq (mulP_el ha hb) hc, mulP_eq ha (mulP_el hb hc), mulP_eq ha hb, mulP_eq hb hc, mod_mul_mod]
theorem mulP_inj {a x y : Int} (ha : elB a = true) (hx : elB x = true) (hy : elB y = true) : mulP a x = mulP a y ↔ x = y := by
  constructor
  · intro h
    rw [mulP_eq ha hx, mulP_eq ha hy] at h
    exact mul_cancel (elB_iff.1 ha) (elB_iff.1 hx) (elB_iff.1 hy) h
  · rintro rfl; rfl
theorem facP_inj {x y : Int} (hx : elB x = true) (hy : elB y = true) (h : facP x = facP y) : x = y := by
  rw [facP_eq hx, facP_eq hy] at h
  have h1 := elB_iff.1 hx
  have h2 := elB_iff.1 hy
  omega

/-- laws.element -/
def elemP (n : Int) : Int := 1 + n % 996
theorem elemP_el (n : Int) : elB (elemP n) = true := by rw [elB_iff, elemP]; omega
/-- laws.another -/
def anoP (n k : Int) : Int := (n + 1 + k % 990) % 991
end Go.Proofs.Ytbkecimhbibnjaa
