/- Arithmetic by a modulus: powers bit by bit, and the long way to an inverse. Plain Lean, no program in sight. No conditions. -/
namespace Go.Proofs.Ytpdhbddkcnffbaa.FM
theorem dvd_of_mod {x y m : Nat} (h : x % m = y % m) : (m : Int) ∣ (x : Int) - y := by
  have h' : (x : Int) % m = (y : Int) % m := by have := congrArg (Nat.cast : Nat → Int) h; simpa using this
  exact Int.dvd_of_emod_eq_zero (Int.emod_eq_emod_iff_emod_sub_eq_zero.1 h')
theorem mod_of_dvd {x y m : Nat} (h : (m : Int) ∣ (x : Int) - y) : x % m = y % m := by
  have h' : (x : Int) % m = (y : Int) % m := Int.emod_eq_emod_iff_emod_sub_eq_zero.2 (Int.emod_eq_zero_of_dvd h)
  have : ((x % m : Nat) : Int) = ((y % m : Nat) : Int) := by simpa using h'
  exact Int.ofNat.inj this

/-- x by the modulus -/
theorem inv_uniq {a i j m : Nat} (hi : i < m) (hj : j < m) (ei : a * i % m = 1 % m) (ej : a * j % m = 1 % m) : i = j := by
  obtain ⟨c, hc⟩ := dvd_of_mod ei
  obtain ⟨d, hd⟩ := dvd_of_mod ej
  have : (m : Int) ∣ (i : Int) - j := ⟨c * j - d * i, by
    have h1 : ((a * i : Nat) : Int) = a * i := by simp
    have h2 : ((a * j : Nat) : Int) = a * j := by simp
    rw [h1] at hc; rw [h2] at hd
    have e1 : (a : Int) * i = 1 + m * c := by have : ((1 : Nat) : Int) = 1 := rfl; rw [this] at hc; omega
    have e2 : (a : Int) * j = 1 + m * d := by have : ((1 : Nat) : Int) = 1 := rfl; rw [this] at hd; omega
    grind⟩
  have := mod_of_dvd this
  rw [Nat.mod_eq_of_lt hi, Nat.mod_eq_of_lt hj] at this
  exact this

theorem sub_dvd {u v m : Nat} (hv : v ≤ m) : (m : Int) ∣ (((u + m - v) % m : Nat) : Int) - (u - v) := by
  have h1 : (((u + m - v) % m : Nat) : Int) = (u + m - v : Int) % m := by
    rw [Int.natCast_emod]; congr 1; omega
  rw [h1]
  refine ⟨1 - (u + m - v : Int) / m, ?_⟩
  have := Int.mul_ediv_add_emod (u + m - v) m
  rw [Int.mul_sub, Int.mul_one]; omega

/-- one round of the long way to an inverse -/
theorem inv_step {a m r s u t : Nat} (hm : 0 < m) (hu : u * a % m = r % m) (ht : t * a % m = s % m) : (u + m - (r / s % m) * t % m) % m * a % m = (r % s) % m := by
  obtain ⟨c, hc⟩ := dvd_of_mod hu
  obtain ⟨d, hd⟩ := dvd_of_mod ht
  obtain ⟨e, he⟩ := sub_dvd (u := u) (v := (r / s % m) * t % m) (Nat.le_of_lt (Nat.mod_lt _ hm))
  obtain ⟨f, hf⟩ : (m : Int) ∣ (((r / s % m) * t % m : Nat) : Int) - ((r / s * t : Nat) : Int) := dvd_of_mod (by simp [Nat.mod_mul_mod])
  have hrs : (r : Int) = s * ((r / s : Nat) : Int) + ((r % s : Nat) : Int) := by
    have := Nat.div_add_mod r s
    have := congrArg (Nat.cast : Nat → Int) this
    simpa using this.symm
  apply mod_of_dvd
  generalize (u + m - (r / s % m) * t % m) % m = x at *
  generalize (r / s % m) * t % m = y at *
  generalize hq : r / s = q at *
  generalize r % s = l at *
  have e1 : ((u * a : Nat) : Int) = u * a := by simp
  have e2 : ((t * a : Nat) : Int) = t * a := by simp
  have e3 : ((q * t : Nat) : Int) = q * t := by simp
  have e4 : ((x * a : Nat) : Int) = x * a := by simp
  rw [e1] at hc; rw [e2] at hd; rw [e3] at hf; rw [e4]
  exact ⟨e * a - f * a + c - q * d, by
    have h1 : (x : Int) = u - y + m * e := by omega
    have h2 : (y : Int) = q * t + m * f := by omega
    have h3 : (u : Int) * a = r + m * c := by omega
    have h4 : (t : Int) * a = s + m * d := by omega
    rw [h1, h2]
    grind⟩

theorem pow_split (x e m : Nat) : x ^ (2 * e) % m = (x ^ e % m) * (x ^ e % m) % m := by
  rw [Nat.two_mul, Nat.pow_add, Nat.mul_mod]
theorem pow_one (x e m : Nat) : x ^ (2 * e + 1) % m = (((x ^ e % m) * (x ^ e % m) % m) * x) % m := by
  rw [Nat.pow_succ, Nat.mul_mod, pow_split]; simp [Nat.mul_mod]
end Go.Proofs.Ytpdhbddkcnffbaa.FM
