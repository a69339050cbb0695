

/-
  Primes, Fermat's little theorem and Pocklington's test, in plain Lean; own work.
  The field of 2^255 - 19 numbers, Edwards curves over it, and the ladder; own work.
  Numbers as digits to the base 256 and as four parts of 64 bits, and what is left of them modulo 2^255 - 19: plain Lean; own work.
  What the loops of package fe leave, part by part: plain Lean; own work.
  Products, part by part: plain Lean; own work.
  The reference's digits, carried: plain Lean; own work.
  The reference's comparison with p, and the difference: plain Lean; own work.
  The reference's sums, differences and products of digits: plain Lean; own work.
  The ladder over an Edwards curve; own work.
  X25519 in plain Lean: the ladder, that two secrets may change places, and that what is shared is not nought; own work.
-/
set_option linter.unusedVariables false
namespace Go.Proofs.YtgclegdgngldoaaDoor.Fp
def Prime (p : Nat) : Prop := 2 ≤ p ∧ ∀ d, d ∣ p → d = 1 ∨ d = p

theorem Prime.pos {p : Nat} (h : Prime p) : 0 < p := by have := h.1; omega
theorem Prime.coprime {p a : Nat} (h : Prime p) (ha : ¬ p ∣ a) : Nat.gcd p a = 1 := by
  rcases h.2 _ (Nat.gcd_dvd_left p a) with e | e
  · exact e
  · exact absurd (e ▸ Nat.gcd_dvd_right p a) ha
theorem Prime.dvd_mul {p a b : Nat} (h : Prime p) (hd : p ∣ a * b) : p ∣ a ∨ p ∣ b := by
  by_cases ha : p ∣ a
  · exact .inl ha
  · exact .inr (Nat.Coprime.dvd_of_dvd_mul_left (h.coprime ha) hd)
/-- choose -/
def ch : Nat → Nat → Nat
  | _, 0 => 1
  | 0, _ + 1 => 0
  | n + 1, k + 1 => ch n k + ch n (k + 1)
theorem ch_gt : ∀ (n k : Nat), n < k → ch n k = 0
  | 0, 0, h => by omega
  | 0, k + 1, h => rfl
  | n + 1, 0, h => by omega
  | n + 1, k + 1, h => by simp [ch, ch_gt n k (by omega), ch_gt n (k + 1) (by omega)]
theorem ch_self : ∀ n, ch n n = 1
  | 0 => rfl
  | n + 1 => by simp [ch, ch_self n, ch_gt n (n + 1) (by omega)]
theorem ch_zero (n : Nat) : ch n 0 = 1 := by cases n <;> rfl
theorem ch_mul : ∀ (n k : Nat), (k + 1) * ch (n + 1) (k + 1) = (n + 1) * ch n k
  | 0, 0 => rfl
  | 0, k + 1 => by simp [ch]
  | n + 1, 0 => by
    have := ch_mul n 0
    simp [ch, ch_zero] at this ⊢
    omega
  | n + 1, k + 1 => by
    have h1 := ch_mul n k
    have h2 := ch_mul n (k + 1)
    have e1 : ch (n + 1 + 1) (k + 1 + 1) = ch (n + 1) (k + 1) + ch (n + 1) (k + 1 + 1) := rfl
    have e2 : ch (n + 1) (k + 1) = ch n k + ch n (k + 1) := rfl
    rw [e1]
    have e3 : (k + 1 + 1) * ch (n + 1) (k + 1) = (n + 1) * ch n k + ch (n + 1) (k + 1) := by rw [Nat.succ_mul, h1]
    rw [Nat.mul_add, e3, h2, e2]
    simp only [Nat.mul_add, Nat.add_mul, Nat.one_mul]
    omega
theorem Prime.dvd_ch {p : Nat} (h : Prime p) (k : Nat) (h0 : 0 < k) (hk : k < p) : p ∣ ch p k := by
  obtain ⟨n, rfl⟩ : ∃ n, p = n + 1 := ⟨p - 1, by have := h.pos; omega⟩
  obtain ⟨j, rfl⟩ : ∃ j, k = j + 1 := ⟨k - 1, by omega⟩
  have e := ch_mul n j
  rcases h.dvd_mul (show n + 1 ∣ (j + 1) * ch (n + 1) (j + 1) by rw [e]; exact Nat.dvd_mul_right _ _) with hd | hd
  · exact absurd (Nat.le_of_dvd (by omega) hd) (by omega)
  · exact hd
/-- the first m members of (a + 1)^n -/
def S (a n : Nat) : Nat → Nat
  | 0 => 0
  | m + 1 => S a n m + ch n m * a ^ m
theorem S_succ (a n : Nat) : ∀ m, S a (n + 1) (m + 1) = S a n (m + 1) + a * S a n m
  | 0 => by simp [S, ch_zero]
  | m + 1 => by
    have ih := S_succ a n m
    show S a (n + 1) (m + 1) + ch (n + 1) (m + 1) * a ^ (m + 1) = (S a n (m + 1) + ch n (m + 1) * a ^ (m + 1)) + a * (S a n m + ch n m * a ^ m)
    rw [ih]
    have e : ch (n + 1) (m + 1) = ch n m + ch n (m + 1) := rfl
    rw [e, Nat.add_mul, Nat.mul_add, Nat.pow_succ]
    have : a * (ch n m * a ^ m) = ch n m * (a ^ m * a) := by rw [Nat.mul_left_comm, Nat.mul_comm a (a ^ m)]
    omega
theorem binomial (a : Nat) : ∀ n, (a + 1) ^ n = S a n (n + 1)
  | 0 => by simp [S, ch]
  | n + 1 => by
    rw [S_succ, Nat.pow_succ, binomial a n]
    have e : S a n (n + 1 + 1) = S a n (n + 1) + ch n (n + 1) * a ^ (n + 1) := rfl
    rw [e, ch_gt n (n + 1) (by omega), Nat.zero_mul, Nat.add_zero, Nat.mul_add, Nat.mul_one, Nat.mul_comm a]
    omega
theorem Prime.S_mod {p : Nat} (h : Prime p) (a : Nat) : ∀ m, m < p → S a p (m + 1) % p = 1
  | 0, _ => by simp [S, ch_zero]; exact Nat.mod_eq_of_lt h.1
  | m + 1, hm => by
    show (S a p (m + 1) + ch p (m + 1) * a ^ (m + 1)) % p = 1
    obtain ⟨c, hc⟩ := h.dvd_ch (m + 1) (by omega) hm
    rw [hc, Nat.mul_assoc, Nat.add_mul_mod_self_left, h.S_mod a m (by omega)]
theorem Prime.add_one_pow {p : Nat} (h : Prime p) (a : Nat) : (a + 1) ^ p % p = (a ^ p + 1) % p := by
  obtain ⟨n, hn⟩ : ∃ n, p = n + 1 := ⟨p - 1, by have := h.pos; omega⟩
  rw [binomial]
  show (S a p p + ch p p * a ^ p) % p = _
  rw [ch_self, Nat.one_mul, Nat.add_comm (S a p p)]
  have : S a p p % p = 1 % p := by
    have := h.S_mod a n (by omega)
    rw [← hn] at this
    rw [this, Nat.mod_eq_of_lt h.1]
  rw [Nat.add_mod, this, ← Nat.add_mod]
theorem Prime.pow_self {p : Nat} (h : Prime p) : ∀ a, a ^ p % p = a % p
  | 0 => by rw [Nat.zero_pow h.pos]
  | a + 1 => by rw [h.add_one_pow, Nat.add_mod, h.pow_self a, ← Nat.add_mod]
theorem Prime.cancel {p a b c : Nat} (h : Prime p) (hc : ¬ p ∣ c) (e : c * a % p = c * b % p) : a % p = b % p := by
  have key : ∀ a b : Nat, a ≤ b → c * a % p = c * b % p → a % p = b % p := by
    intro a b hle e
    have hd : p ∣ c * b - c * a := Nat.dvd_of_mod_eq_zero (Nat.sub_mod_eq_zero_of_mod_eq e.symm)
    rw [← Nat.mul_sub] at hd
    rcases h.dvd_mul hd with hd | hd
    · exact absurd hd hc
    · obtain ⟨k, hk⟩ := hd
      have : b = a + p * k := by omega
      rw [this, Nat.add_mul_mod_self_left]
  rcases Nat.le_total a b with hle | hle
  · exact key a b hle e
  · exact (key b a hle e.symm).symm
theorem Prime.fermat {p a : Nat} (h : Prime p) (ha : ¬ p ∣ a) : a ^ (p - 1) % p = 1 := by
  have e := h.pow_self a
  obtain ⟨n, hn⟩ : ∃ n, p = n + 1 := ⟨p - 1, by have := h.pos; omega⟩
  have e2 : a * a ^ (p - 1) % p = a * 1 % p := by
    rw [Nat.mul_one, ← e, Nat.mul_comm, ← Nat.pow_succ]; congr 2; omega
  have := h.cancel ha e2
  rw [this, Nat.mod_eq_of_lt h.1]
/-- powers that are one -/
theorem pow_gcd {b n : Nat} (hn : 1 < n) : ∀ x y : Nat, b ^ x % n = 1 → b ^ y % n = 1 → b ^ (Nat.gcd x y) % n = 1 := by
  intro x y
  induction x, y using Nat.gcd.induction with
  | H0 y => intro _ h; simpa using h
  | H1 x y hx ih =>
    intro h1 h2
    rw [Nat.gcd_rec]
    refine ih ?_ h1
    have e : b ^ y = (b ^ x) ^ (y / x) * b ^ (y % x) := by rw [← Nat.pow_mul, ← Nat.pow_add, Nat.div_add_mod]
    rw [e, Nat.mul_mod, Nat.pow_mod, h1, Nat.one_pow, Nat.mod_eq_of_lt hn, Nat.one_mul, Nat.mod_mod] at h2
    exact h2
/-- the least divisor that is not one is a prime -/
theorem exists_prime_dvd : ∀ n : Nat, 2 ≤ n → ∃ r, Prime r ∧ r ∣ n := by
  intro n
  induction n using Nat.strongRecOn with
  | _ n ih =>
    intro h
    by_cases hp : Prime n
    · exact ⟨n, hp, Nat.dvd_refl _⟩
    · have : ∃ d, d ∣ n ∧ d ≠ 1 ∧ d ≠ n := by
        apply Classical.byContradiction
        intro hno
        exact hp ⟨h, fun d hd => by
          apply Classical.byContradiction
          intro h2
          exact hno ⟨d, hd, fun e => h2 (.inl e), fun e => h2 (.inr e)⟩⟩
      obtain ⟨d, hd, h1, h2⟩ := this
      have hle := Nat.le_of_dvd (by omega) hd
      have h0 : d ≠ 0 := by rintro rfl; rw [Nat.zero_dvd] at hd; omega
      obtain ⟨r, hr, hrd⟩ := ih d (by omega) (by omega)
      exact ⟨r, hr, Nat.dvd_trans hrd hd⟩
theorem exists_small {n : Nat} (h : 2 ≤ n) (hp : ¬ Prime n) : ∃ r, Prime r ∧ r ∣ n ∧ r * r ≤ n := by
  have : ∃ d, d ∣ n ∧ d ≠ 1 ∧ d ≠ n := by
    apply Classical.byContradiction
    intro hno
    exact hp ⟨h, fun d hd => by
      apply Classical.byContradiction
      intro h2
      exact hno ⟨d, hd, fun e => h2 (.inl e), fun e => h2 (.inr e)⟩⟩
  obtain ⟨d, ⟨e, he⟩, h1, h2⟩ := this
  have hd0 : d ≠ 0 := by rintro rfl; simp at he; omega
  have he0 : e ≠ 0 := by rintro rfl; simp at he; omega
  have he1 : e ≠ 1 := by rintro rfl; simp at he; omega
  rcases Nat.le_total d e with hle | hle
  · obtain ⟨r, hr, hrd⟩ := exists_prime_dvd d (by omega)
    refine ⟨r, hr, Nat.dvd_trans hrd ⟨e, he⟩, ?_⟩
    have := Nat.le_of_dvd (by omega) hrd
    rw [he]; exact Nat.mul_le_mul this (by omega)
  · obtain ⟨r, hr, hrd⟩ := exists_prime_dvd e (by omega)
    refine ⟨r, hr, Nat.dvd_trans hrd ⟨d, by rw [he, Nat.mul_comm]⟩, ?_⟩
    have := Nat.le_of_dvd (by omega) hrd
    rw [he]; exact Nat.mul_le_mul (by omega) this
/-- powers, by squares -/
def pm (m b : Nat) : Nat → Nat → Nat
  | 0, _ => 1 % m
  | k + 1, e => if e % 2 = 1 then pm m b k (e / 2) * pm m b k (e / 2) % m * b % m else pm m b k (e / 2) * pm m b k (e / 2) % m
def sqm (m b : Nat) (o : Bool) (h : Nat) : Nat := cond o (h * h % m * b % m) (h * h % m)
/-- .. in one pass -/
def pw (m b : Nat) : Nat → Nat → Nat
  | 0, _ => 1 % m
  | k + 1, e => sqm m b (Nat.beq (e % 2) 1) (pw m b k (e / 2))
theorem pw_eq (m b : Nat) : ∀ k e, e < 2 ^ k → pw m b k e = b ^ e % m
  | 0, e, h => by
    have : e = 0 := by simpa using h
    subst this; rfl
  | k + 1, e, h => by
    have ih := pw_eq m b k (e / 2) (by rw [Nat.pow_succ] at h; omega)
    unfold pw sqm
    rw [ih]
    have e2 : e = 2 * (e / 2) + e % 2 := by omega
    rcases Nat.mod_two_eq_zero_or_one e with h0 | h0
    · have hb : Nat.beq (e % 2) 1 = false := by rw [h0]; rfl
      rw [hb]
      show _ = _
      conv => rhs; rw [e2, h0, Nat.add_zero, Nat.mul_comm, Nat.pow_mul, Nat.pow_two]
      simp [Nat.mul_mod]
    · have hb : Nat.beq (e % 2) 1 = true := by rw [h0]; rfl
      rw [hb]
      show _ = _
      conv => rhs; rw [e2, h0, Nat.pow_succ, Nat.mul_comm 2, Nat.pow_mul, Nat.pow_two]
      simp [Nat.mul_mod]
/-- one factor of Pocklington's test -/
theorem pock_dvd {n q m a r : Nat} (hq : Prime q) (hn : n - 1 = q * m) (h1 : a ^ (n - 1) % n = 1) (hg : Nat.gcd (a ^ m % n + (n - 1)) n = 1) (hn1 : 1 < n) (hr : Prime r) (hrn : r ∣ n) : q ∣ r - 1 := by
  have hr1 : 1 < r := hr.1
  obtain ⟨c, hc⟩ := hrn
  have hmod : ∀ x, x % n % r = x % r := fun x => Nat.mod_mod_of_dvd x ⟨c, hc⟩
  have e1 : (a ^ m) ^ q % r = 1 := by
    rw [← Nat.pow_mul, Nat.mul_comm m q, ← hn, ← hmod, h1, Nat.mod_eq_of_lt hr1]
  have hra : ¬ r ∣ a ^ m := by
    intro hd
    have : (a ^ m) ^ q % r = 0 := by
      have : r ∣ (a ^ m) ^ q := Nat.dvd_trans hd (by obtain ⟨j, hj⟩ : ∃ j, q = j + 1 := ⟨q - 1, by have := hq.pos; omega⟩; rw [hj, Nat.pow_succ]; exact Nat.dvd_mul_left _ _)
      exact Nat.mod_eq_zero_of_dvd this
    omega
  have e2 := hr.fermat hra
  apply Classical.byContradiction
  intro hnd
  have hg1 := hq.coprime hnd
  have e3 := pow_gcd hr1 q (r - 1) e1 e2
  rw [hg1, Nat.pow_one] at e3
  have : r ∣ Nat.gcd (a ^ m % n + (n - 1)) n := by
    refine Nat.dvd_gcd ?_ ⟨c, hc⟩
    apply Nat.dvd_of_mod_eq_zero
    rw [Nat.add_mod, hmod, e3]
    have hz : (1 + (n - 1)) % r = 0 := by
      have : 1 + (n - 1) = r * c := by omega
      rw [this]; exact Nat.mul_mod_right _ _
    rw [Nat.add_mod] at hz
    rwa [Nat.mod_eq_of_lt hr1] at hz
  rw [hg] at this
  have := Nat.le_of_dvd (by omega) this
  omega
theorem pock1 {n q m a : Nat} (hq : Prime q) (hn : n - 1 = q * m) (h1 : a ^ (n - 1) % n = 1) (hg : Nat.gcd (a ^ m % n + (n - 1)) n = 1) (hn1 : 1 < n) (hs : n < (q + 1) * (q + 1)) : Prime n := by
  apply Classical.byContradiction
  intro hp
  obtain ⟨r, hr, hrn, hrr⟩ := exists_small (by omega) hp
  have hd := pock_dvd hq hn h1 hg hn1 hr hrn
  have := Nat.le_of_dvd (by have := hr.1; omega) hd
  have h2 : q + 1 ≤ r := by have := hr.1; omega
  have := Nat.mul_le_mul h2 h2
  omega
theorem pock2 {n q s m k a b : Nat} (hq : Prime q) (hs' : Prime s) (hqs : q ≠ s) (hn : n - 1 = q * m) (hn' : n - 1 = s * k) (h1 : a ^ (n - 1) % n = 1) (hg : Nat.gcd (a ^ m % n + (n - 1)) n = 1)
    (h1' : b ^ (n - 1) % n = 1) (hg' : Nat.gcd (b ^ k % n + (n - 1)) n = 1) (hn1 : 1 < n) (hs : n < (q * s + 1) * (q * s + 1)) : Prime n := by
  apply Classical.byContradiction
  intro hp
  obtain ⟨r, hr, hrn, hrr⟩ := exists_small (by omega) hp
  have hd := pock_dvd hq hn h1 hg hn1 hr hrn
  have hd' := pock_dvd hs' hn' h1' hg' hn1 hr hrn
  have hc : Nat.Coprime q s := hq.coprime (fun h => by
    rcases hs'.2 q h with e | e
    · have := hq.1; omega
    · exact hqs e)
  have hd2 := Nat.Coprime.mul_dvd_of_dvd_of_dvd hc hd hd'
  have := Nat.le_of_dvd (by have := hr.1; omega) hd2
  have h2 : q * s + 1 ≤ r := by have := hr.1; omega
  have := Nat.mul_le_mul h2 h2
  omega
/-- trial division -/
def tri (n : Nat) : Nat → Bool
  | 0 => true
  | k + 1 => (n % (k + 2) != 0) && tri n k
theorem tri_spec (n : Nat) : ∀ k, tri n k = true → ∀ d, 2 ≤ d → d < k + 2 → ¬ d ∣ n
  | 0, _, d, h1, h2 => by omega
  | k + 1, h, d, h1, h2 => by
    simp only [tri, Bool.and_eq_true, bne_iff_ne] at h
    by_cases e : d = k + 2
    · subst e; intro hd; exact h.1 (Nat.mod_eq_zero_of_dvd hd)
    · exact tri_spec n k h.2 d h1 (by omega)
theorem prime_tri {n k : Nat} (h2 : 2 ≤ n) (hk : n < (k + 2) * (k + 2)) (h : tri n k = true) : Prime n := by
  apply Classical.byContradiction
  intro hp
  obtain ⟨r, hr, hrn, hrr⟩ := exists_small h2 hp
  refine tri_spec n k h r hr.1 ?_ hrn
  apply Classical.byContradiction
  intro hge
  have := Nat.mul_le_mul (show k + 2 ≤ r by omega) (show k + 2 ≤ r by omega)
  omega
theorem pk1 {n q m a k : Nat} (hq : Prime q) (hn : n - 1 = q * m) (hk : n - 1 < 2 ^ k) (h1 : pw n a k (n - 1) = 1) (hg : Nat.gcd (pw n a k m + (n - 1)) n = 1) (hn1 : 1 < n) (hs : n < (q + 1) * (q + 1)) : Prime n := by
  have hm : m < 2 ^ k := by
    have := Nat.le_mul_of_pos_left m hq.pos
    omega
  rw [pw_eq _ _ _ _ hk] at h1
  rw [pw_eq _ _ _ _ hm] at hg
  exact pock1 hq hn h1 hg hn1 hs
theorem pk2 {n q s m j a b k : Nat} (hq : Prime q) (hs' : Prime s) (hqs : q ≠ s) (hn : n - 1 = q * m) (hn' : n - 1 = s * j) (hk : n - 1 < 2 ^ k) (h1 : pw n a k (n - 1) = 1) (hg : Nat.gcd (pw n a k m + (n - 1)) n = 1)
    (h1' : pw n b k (n - 1) = 1) (hg' : Nat.gcd (pw n b k j + (n - 1)) n = 1) (hn1 : 1 < n) (hs : n < (q * s + 1) * (q * s + 1)) : Prime n := by
  have hm : m < 2 ^ k := by
    have := Nat.le_mul_of_pos_left m hq.pos
    omega
  have hj : j < 2 ^ k := by
    have := Nat.le_mul_of_pos_left j hs'.pos
    omega
  rw [pw_eq _ _ _ _ hk] at h1 h1'
  rw [pw_eq _ _ _ _ hm] at hg
  rw [pw_eq _ _ _ _ hj] at hg'
  exact pock2 hq hs' hqs hn hn' h1 hg h1' hg' hn1 hs
theorem pr353 : Prime 353 := prime_tri (k := 18) (by decide) (by decide) (by decide +kernel)
theorem pr75707 : Prime 75707 := prime_tri (k := 275) (by decide) (by decide) (by decide +kernel)
theorem pr7 : Prime 7 := prime_tri (k := 2) (by decide) (by decide) (by decide +kernel)
theorem pr3 : Prime 3 := prime_tri (k := 1) (by decide) (by decide) (by decide +kernel)
theorem pr991 : Prime 991 := prime_tri (k := 31) (by decide) (by decide) (by decide +kernel)
theorem pr_5 : Prime 8574133 :=
  pk2 (q := 3) (s := 991) (m := 2858044) (j := 8652) (a := 2) (b := 2) (k := 24) pr3 pr991 (by decide +kernel) (by decide +kernel) (by decide +kernel) (by decide +kernel) (by decide +kernel) (by decide +kernel) (by decide +kernel) (by decide +kernel) (by decide +kernel) (by decide +kernel)
theorem pr_6 : Prime 1919519569386763 :=
  pk2 (q := 7) (s := 8574133) (m := 274217081340966) (j := 223873314) (a := 2) (b := 2) (k := 51) pr7 pr_5 (by decide +kernel) (by decide +kernel) (by decide +kernel) (by decide +kernel) (by decide +kernel) (by decide +kernel) (by decide +kernel) (by decide +kernel) (by decide +kernel) (by decide +kernel)
theorem pr_7 : Prime 75445702479781427272750846543864801 :=
  pk2 (q := 75707) (s := 1919519569386763) (m := 996548568557483816196003626400) (j := 39304471641247389600) (a := 2) (b := 2) (k := 116) pr75707 pr_6 (by decide +kernel) (by decide +kernel) (by decide +kernel) (by decide +kernel) (by decide +kernel) (by decide +kernel) (by decide +kernel) (by decide +kernel) (by decide +kernel) (by decide +kernel)
theorem pr_8 : Prime 74058212732561358302231226437062788676166966415465897661863160754340907 :=
  pk2 (q := 353) (s := 75445702479781427272750846543864801) (m := 209796636636151156663544550813209033076960244803019540118592523383402) (j := 981609426360740691344999861639072106) (a := 2) (b := 2) (k := 236) pr353 pr_7 (by decide +kernel) (by decide +kernel) (by decide +kernel) (by decide +kernel) (by decide +kernel) (by decide +kernel) (by decide +kernel) (by decide +kernel) (by decide +kernel) (by decide +kernel)
theorem pr_9 : Prime 57896044618658097711785492504343953926634992332820282019728792003956564819949 :=
  pk1 (q := 74058212732561358302231226437062788676166966415465897661863160754340907) (m := 781764) (a := 2) (k := 255) pr_8 (by decide +kernel) (by decide +kernel) (by decide +kernel) (by decide +kernel) (by decide +kernel) (by decide +kernel)
theorem prime_p25519 : Prime 57896044618658097711785492504343953926634992332820282019728792003956564819949 := pr_9
end Go.Proofs.YtgclegdgngldoaaDoor.Fp
set_option linter.unusedVariables false
namespace Go.Proofs.YtgclegdgngldoaaDoor.Fp
def P : Nat := 57896044618658097711785492504343953926634992332820282019728792003956564819949
instance : NeZero P := ⟨by decide⟩
abbrev F := Fin P
theorem prP : Prime P := prime_p25519
theorem val_mul (a b : F) : (a * b).val = a.val * b.val % P := rfl
theorem val_pow (a : F) : ∀ n : Nat, (a ^ n).val = a.val ^ n % P
  | 0 => by
    have h : a ^ 0 = 1 := by grind
    rw [h, Nat.pow_zero]; decide +kernel
  | n + 1 => by
    have h : a ^ (n + 1) = a ^ n * a := by grind
    rw [h, val_mul, val_pow a n, Nat.pow_succ, Nat.mod_mul_mod]
theorem F.ne_zero {a : F} (h : a ≠ 0) : ¬ P ∣ a.val := by
  intro hd
  apply h
  have h1 : a.val = 0 := Nat.eq_zero_of_dvd_of_lt hd a.isLt
  exact Fin.ext h1
theorem mul_eq_zero {a b : F} (h : a * b = 0) : a = 0 ∨ b = 0 := by
  have h1 : a.val * b.val % P = 0 := by rw [← val_mul, h]; rfl
  rcases prP.dvd_mul (Nat.dvd_of_mod_eq_zero h1) with h2 | h2
  · exact .inl (Fin.ext (Nat.eq_zero_of_dvd_of_lt h2 a.isLt))
  · exact .inr (Fin.ext (Nat.eq_zero_of_dvd_of_lt h2 b.isLt))
theorem mul_ne {a b : F} (ha : a ≠ 0) (hb : b ≠ 0) : a * b ≠ 0 := fun h => (mul_eq_zero h).elim ha hb
theorem fermat {a : F} (h : a ≠ 0) : a ^ (P - 1) = 1 := by
  apply Fin.ext
  rw [val_pow, prP.fermat (F.ne_zero h)]
  decide +kernel
def inv (a : F) : F := a ^ (P - 2)
theorem mul_inv {a : F} (h : a ≠ 0) : a * inv a = 1 := by
  have e : P - 1 = (P - 2) + 1 := by decide +kernel
  have h1 := fermat h
  rw [e] at h1
  have h2 : a ^ (P - 2 + 1) = a ^ (P - 2) * a := by grind
  rw [h2] at h1
  unfold inv
  generalize a ^ (P - 2) = c at *
  grind
theorem two_ne : (2 : F) ≠ 0 := by decide +kernel
theorem cancel {a b c : F} (hc : c ≠ 0) (h : c * a = c * b) : a = b := by
  have : c * (a - b) = 0 := by grind
  rcases mul_eq_zero this with h1 | h1
  · exact absurd h1 hc
  · grind
/-- no square -/
def NS (D : F) : Prop := ∀ a b : F, a * a = D * (b * b) → b = 0
structure Pt (D : F) where
  x : F
  y : F
  on : x * x + y * y = 1 + D * x * x * y * y
section
variable {D : F}
theorem Pt.ext {p q : Pt D} (h1 : p.x = q.x) (h2 : p.y = q.y) : p = q := by
  cases p; cases q; simp at h1 h2; subst h1; subst h2; rfl
theorem complete (hD : NS D) {x1 y1 x2 y2 e : F} (h1 : x1 * x1 + y1 * y1 = 1 + D * x1 * x1 * y1 * y1) (h2 : x2 * x2 + y2 * y2 = 1 + D * x2 * x2 * y2 * y2) (he : e * e = 1) : 1 + e * (D * x1 * x2 * y1 * y2) ≠ 0 := by
  intro h
  have e1 : D * x1 * x2 * y1 * y2 = - e := by grind
  have k1 : (x1 - e * y1) * (x1 - e * y1) = D * ((x1 * y1 * (x2 + y2)) * (x1 * y1 * (x2 + y2))) := by grind
  have k2 : (x1 + e * y1) * (x1 + e * y1) = D * ((x1 * y1 * (x2 - y2)) * (x1 * y1 * (x2 - y2))) := by grind
  have z1 := hD _ _ k1
  have z2 := hD _ _ k2
  have n1 : x1 * y1 ≠ 0 := by intro hz; have : e = 0 := by grind
                              rw [this] at he; exact absurd he (by decide +kernel)
  rcases mul_eq_zero z1 with a | a
  · exact n1 a
  · rcases mul_eq_zero z2 with b | b
    · exact n1 b
    · have : 2 * x2 = 0 := by grind
      rcases mul_eq_zero this with c | c
      · exact two_ne c
      · have c2 : y2 = 0 := by grind
        have : (0 : F) = 1 := by grind
        exact absurd this (by decide +kernel)
theorem dp_ne (hD : NS D) (p q : Pt D) : 1 + D * p.x * q.x * p.y * q.y ≠ 0 := by
  have := complete hD (e := 1) p.on q.on (by decide +kernel)
  intro h; apply this; grind
theorem dm_ne (hD : NS D) (p q : Pt D) : 1 - D * p.x * q.x * p.y * q.y ≠ 0 := by
  have := complete hD (e := -1) p.on q.on (by decide +kernel)
  intro h; apply this; grind
theorem add_on {x1 y1 x2 y2 i j : F} (h1 : x1 * x1 + y1 * y1 = 1 + D * x1 * x1 * y1 * y1) (h2 : x2 * x2 + y2 * y2 = 1 + D * x2 * x2 * y2 * y2)
    (hi : (1 + D * x1 * x2 * y1 * y2) * i = 1) (hj : (1 - D * x1 * x2 * y1 * y2) * j = 1) :
    ((x1 * y2 + y1 * x2) * i) * ((x1 * y2 + y1 * x2) * i) + ((y1 * y2 - x1 * x2) * j) * ((y1 * y2 - x1 * x2) * j) = 1 + D * ((x1 * y2 + y1 * x2) * i) * ((x1 * y2 + y1 * x2) * i) * ((y1 * y2 - x1 * x2) * j) * ((y1 * y2 - x1 * x2) * j) := by
  have key : (x1 * y2 + y1 * x2) * (x1 * y2 + y1 * x2) * ((1 - D * x1 * x2 * y1 * y2) * (1 - D * x1 * x2 * y1 * y2)) + (y1 * y2 - x1 * x2) * (y1 * y2 - x1 * x2) * ((1 + D * x1 * x2 * y1 * y2) * (1 + D * x1 * x2 * y1 * y2)) =
      (1 + D * x1 * x2 * y1 * y2) * (1 + D * x1 * x2 * y1 * y2) * ((1 - D * x1 * x2 * y1 * y2) * (1 - D * x1 * x2 * y1 * y2)) + D * ((x1 * y2 + y1 * x2) * (x1 * y2 + y1 * x2)) * ((y1 * y2 - x1 * x2) * (y1 * y2 - x1 * x2)) := by grind
  generalize x1 * y2 + y1 * x2 = a at *
  generalize y1 * y2 - x1 * x2 = b at *
  generalize 1 + D * x1 * x2 * y1 * y2 = p at *
  generalize 1 - D * x1 * x2 * y1 * y2 = q at *
  have e : (i * i) * (j * j) * (a * a * (q * q) + b * b * (p * p)) = (i * i) * (j * j) * (p * p * (q * q) + D * (a * a) * (b * b)) := by rw [key]
  clear key h1 h2
  grind
def Pt.add (hD : NS D) (p q : Pt D) : Pt D :=
  ⟨(p.x * q.y + p.y * q.x) * inv (1 + D * p.x * q.x * p.y * q.y), (p.y * q.y - p.x * q.x) * inv (1 - D * p.x * q.x * p.y * q.y),
    add_on p.on q.on (mul_inv (dp_ne hD p q)) (mul_inv (dm_ne hD p q))⟩
def Pt.O : Pt D := ⟨0, 1, by grind⟩
def Pt.neg (p : Pt D) : Pt D := ⟨-p.x, p.y, by have := p.on; grind⟩
variable (hD : NS D)
theorem add_x (p q : Pt D) : (1 + D * p.x * q.x * p.y * q.y) * (p.add hD q).x = p.x * q.y + p.y * q.x := by
  have h := mul_inv (dp_ne hD p q)
  show _ * ((p.x * q.y + p.y * q.x) * inv _) = _
  generalize inv (1 + D * p.x * q.x * p.y * q.y) = i at *
  grind
theorem add_y (p q : Pt D) : (1 - D * p.x * q.x * p.y * q.y) * (p.add hD q).y = p.y * q.y - p.x * q.x := by
  have h := mul_inv (dm_ne hD p q)
  show _ * ((p.y * q.y - p.x * q.x) * inv _) = _
  generalize inv (1 - D * p.x * q.x * p.y * q.y) = i at *
  grind
theorem add_comm (p q : Pt D) : p.add hD q = q.add hD p := by
  have a1 := add_x hD p q; have a2 := add_x hD q p; have b1 := add_y hD p q; have b2 := add_y hD q p
  have c1 := dp_ne hD p q; have c2 := dm_ne hD p q
  refine Pt.ext (cancel c1 ?_) (cancel c2 ?_)
  · rw [a1]
    have : 1 + D * p.x * q.x * p.y * q.y = 1 + D * q.x * p.x * q.y * p.y := by grind
    rw [this, a2]; grind
  · rw [b1]
    have : 1 - D * p.x * q.x * p.y * q.y = 1 - D * q.x * p.x * q.y * p.y := by grind
    rw [this, b2]; grind
theorem add_zero (p : Pt D) : p.add hD .O = p := by
  have a1 := add_x hD p .O; have b1 := add_y hD p .O
  refine Pt.ext ?_ ?_
  · have e1 : (Pt.O : Pt D).x = 0 := rfl
    have e2 : (Pt.O : Pt D).y = 1 := rfl
    rw [e1, e2] at a1; grind
  · have e1 : (Pt.O : Pt D).x = 0 := rfl
    have e2 : (Pt.O : Pt D).y = 1 := rfl
    rw [e1, e2] at b1; grind
theorem zero_add (p : Pt D) : Pt.O.add hD p = p := by rw [add_comm, add_zero]
theorem assocx (x1 y1 x2 y2 x3 y3 : F) (h1 : x1*x1+y1*y1 = 1 + D*x1*x1*y1*y1) (h2 : x2*x2+y2*y2 = 1 + D*x2*x2*y2*y2) (h3 : x3*x3+y3*y3 = 1 + D*x3*x3*y3*y3) :
  ((x1*y2+y1*x2)*(1-D*x1*x2*y1*y2)*y3 + (y1*y2-x1*x2)*(1+D*x1*x2*y1*y2)*x3)*((1+D*x2*x3*y2*y3)*(1-D*x2*x3*y2*y3)+D*x1*y1*(x2*y3+y2*x3)*(y2*y3-x2*x3)) =
  (x1*(y2*y3-x2*x3)*(1+D*x2*x3*y2*y3)+y1*(x2*y3+y2*x3)*(1-D*x2*x3*y2*y3))*((1+D*x1*x2*y1*y2)*(1-D*x1*x2*y1*y2)+D*x3*y3*(x1*y2+y1*x2)*(y1*y2-x1*x2)) := by
  grind
theorem assocy (x1 y1 x2 y2 x3 y3 : F) (h1 : x1*x1+y1*y1 = 1 + D*x1*x1*y1*y1) (h2 : x2*x2+y2*y2 = 1 + D*x2*x2*y2*y2) (h3 : x3*x3+y3*y3 = 1 + D*x3*x3*y3*y3) :
  ((y1*y2-x1*x2)*(1+D*x1*x2*y1*y2)*y3 - (x1*y2+y1*x2)*(1-D*x1*x2*y1*y2)*x3)*((1+D*x2*x3*y2*y3)*(1-D*x2*x3*y2*y3)-D*x1*y1*(x2*y3+y2*x3)*(y2*y3-x2*x3)) =
  (y1*(y2*y3-x2*x3)*(1+D*x2*x3*y2*y3)-x1*(x2*y3+y2*x3)*(1-D*x2*x3*y2*y3))*((1+D*x1*x2*y1*y2)*(1-D*x1*x2*y1*y2)-D*x3*y3*(x1*y2+y1*x2)*(y1*y2-x1*x2)) := by
  grind
theorem add_assoc (p q r : Pt D) : (p.add hD q).add hD r = p.add hD (q.add hD r) := by
  have hx := assocx (D := D) p.x p.y q.x q.y r.x r.y p.on q.on r.on
  have hy := assocy (D := D) p.x p.y q.x q.y r.x r.y p.on q.on r.on
  have a1 := add_x hD p q; have b1 := add_y hD p q; have a2 := add_x hD q r; have b2 := add_y hD q r
  have a3 := add_x hD (p.add hD q) r; have b3 := add_y hD (p.add hD q) r
  have a4 := add_x hD p (q.add hD r); have b4 := add_y hD p (q.add hD r)
  have n1 := dp_ne hD p q; have n2 := dm_ne hD p q; have n3 := dp_ne hD q r; have n4 := dm_ne hD q r
  have n5 := dp_ne hD (p.add hD q) r; have n6 := dm_ne hD (p.add hD q) r
  have n7 := dp_ne hD p (q.add hD r); have n8 := dm_ne hD p (q.add hD r)
  refine Pt.ext ?_ ?_
  · refine cancel (mul_ne (mul_ne (mul_ne n1 n2) (mul_ne n3 n4)) (mul_ne n5 n7)) ?_
    generalize ((p.add hD q).add hD r).x = X at *
    generalize (p.add hD (q.add hD r)).x = X' at *
    generalize (p.add hD q).x = u at *
    generalize (p.add hD q).y = v at *
    generalize (q.add hD r).x = s at *
    generalize (q.add hD r).y = t at *
    clear b3 b4 n1 n2 n3 n4 n5 n6 n7 n8 hy
    obtain ⟨x1, y1, o1⟩ := p; obtain ⟨x2, y2, o2⟩ := q; obtain ⟨x3, y3, o3⟩ := r
    simp only at *
    clear o1 o2 o3
    have k1 : (1 + D * x1 * x2 * y1 * y2) * (1 - D * x1 * x2 * y1 * y2) * ((1 + D * u * x3 * v * y3)) = (1+D*x1*x2*y1*y2)*(1-D*x1*x2*y1*y2)+D*x3*y3*(x1*y2+y1*x2)*(y1*y2-x1*x2) := by rw [← a1, ← b1]; grind
    have k2 : (1 + D * x2 * x3 * y2 * y3) * (1 - D * x2 * x3 * y2 * y3) * ((1 + D * x1 * s * y1 * t)) = (1+D*x2*x3*y2*y3)*(1-D*x2*x3*y2*y3)+D*x1*y1*(x2*y3+y2*x3)*(y2*y3-x2*x3) := by rw [← a2, ← b2]; grind
    have k3 : (1 + D * x1 * x2 * y1 * y2) * (1 - D * x1 * x2 * y1 * y2) * (u * y3 + v * x3) = (x1*y2+y1*x2)*(1-D*x1*x2*y1*y2)*y3 + (y1*y2-x1*x2)*(1+D*x1*x2*y1*y2)*x3 := by rw [← a1, ← b1]; grind
    have k4 : (1 + D * x2 * x3 * y2 * y3) * (1 - D * x2 * x3 * y2 * y3) * (x1 * t + y1 * s) = x1*(y2*y3-x2*x3)*(1+D*x2*x3*y2*y3)+y1*(x2*y3+y2*x3)*(1-D*x2*x3*y2*y3) := by rw [← a2, ← b2]; grind
    rw [← k1, ← k2, ← k3, ← k4] at hx
    clear k1 k2 k3 k4 a1 b1 a2 b2
    generalize 1 + D * x1 * x2 * y1 * y2 = A at *
    generalize 1 - D * x1 * x2 * y1 * y2 = B at *
    generalize 1 + D * x2 * x3 * y2 * y3 = C at *
    generalize 1 - D * x2 * x3 * y2 * y3 = E at *
    generalize 1 + D * u * x3 * v * y3 = G at *
    generalize 1 + D * x1 * s * y1 * t = H at *
    rw [← a3, ← a4] at hx
    grind
  · refine cancel (mul_ne (mul_ne (mul_ne n1 n2) (mul_ne n3 n4)) (mul_ne n6 n8)) ?_
    generalize ((p.add hD q).add hD r).y = X at *
    generalize (p.add hD (q.add hD r)).y = X' at *
    generalize (p.add hD q).x = u at *
    generalize (p.add hD q).y = v at *
    generalize (q.add hD r).x = s at *
    generalize (q.add hD r).y = t at *
    clear a3 a4 n1 n2 n3 n4 n5 n6 n7 n8 hx
    obtain ⟨x1, y1, o1⟩ := p; obtain ⟨x2, y2, o2⟩ := q; obtain ⟨x3, y3, o3⟩ := r
    simp only at *
    clear o1 o2 o3
    have k1 : (1 + D * x1 * x2 * y1 * y2) * (1 - D * x1 * x2 * y1 * y2) * ((1 - D * u * x3 * v * y3)) = (1+D*x1*x2*y1*y2)*(1-D*x1*x2*y1*y2)-D*x3*y3*(x1*y2+y1*x2)*(y1*y2-x1*x2) := by rw [← a1, ← b1]; grind
    have k2 : (1 + D * x2 * x3 * y2 * y3) * (1 - D * x2 * x3 * y2 * y3) * ((1 - D * x1 * s * y1 * t)) = (1+D*x2*x3*y2*y3)*(1-D*x2*x3*y2*y3)-D*x1*y1*(x2*y3+y2*x3)*(y2*y3-x2*x3) := by rw [← a2, ← b2]; grind
    have k3 : (1 + D * x1 * x2 * y1 * y2) * (1 - D * x1 * x2 * y1 * y2) * (v * y3 - u * x3) = (y1*y2-x1*x2)*(1+D*x1*x2*y1*y2)*y3 - (x1*y2+y1*x2)*(1-D*x1*x2*y1*y2)*x3 := by rw [← a1, ← b1]; grind
    have k4 : (1 + D * x2 * x3 * y2 * y3) * (1 - D * x2 * x3 * y2 * y3) * (y1 * t - x1 * s) = y1*(y2*y3-x2*x3)*(1+D*x2*x3*y2*y3)-x1*(x2*y3+y2*x3)*(1-D*x2*x3*y2*y3) := by rw [← a2, ← b2]; grind
    rw [← k1, ← k2, ← k3, ← k4] at hy
    clear k1 k2 k3 k4 a1 b1 a2 b2
    generalize 1 + D * x1 * x2 * y1 * y2 = A at *
    generalize 1 - D * x1 * x2 * y1 * y2 = B at *
    generalize 1 + D * x2 * x3 * y2 * y3 = C at *
    generalize 1 - D * x2 * x3 * y2 * y3 = E at *
    generalize 1 - D * u * x3 * v * y3 = G at *
    generalize 1 - D * x1 * s * y1 * t = H at *
    rw [← b3, ← b4] at hy
    grind
end
end Go.Proofs.YtgclegdgngldoaaDoor.Fp
set_option linter.unusedVariables false
namespace Go.Proofs.YtgclegdgngldoaaDoor.Fp
abbrev B8 := BitVec 8
def M64 : Nat := 18446744073709551616
def M256 : Nat := 115792089237316195423570985008687907853269984665640564039457584007913129639936
/-- the number of digits, the lowest one first -/
def vd : List Nat → Nat
  | [] => 0
  | x :: r => x + 256 * vd r
def leN (l : List B8) : Nat := vd (l.map (·.toNat))
def kbN : Nat → Nat → List B8
  | 0, _ => []
  | k + 1, n => BitVec.ofNat 8 n :: kbN k (n / 256)
/-- the key of a number -/
def kb (n : Nat) : List B8 := kbN 32 n
/-- the key of what is left of a number -/
def cn (n : Nat) : List B8 := kb (n % P)
theorem leN_cons (x : B8) (l : List B8) : leN (x :: l) = x.toNat + 256 * leN l := rfl
theorem leN_lt : ∀ l : List B8, leN l < 256 ^ l.length
  | [] => by simp [leN, vd]
  | x :: r => by
    have := leN_lt r
    have hx := x.isLt
    rw [leN_cons, List.length_cons, Nat.pow_succ]; omega
theorem kbN_len : ∀ k n, (kbN k n).length = k
  | 0, _ => rfl
  | k + 1, n => by simp [kbN, kbN_len k]
@[simp] theorem kb_len (n : Nat) : (kb n).length = 32 := kbN_len 32 n
@[simp] theorem cn_len (n : Nat) : (cn n).length = 32 := kb_len _
theorem leN_kbN : ∀ k n, leN (kbN k n) = n % 256 ^ k
  | 0, n => by simp [kbN, leN, vd, Nat.mod_one]
  | k + 1, n => by
    rw [kbN, leN_cons, leN_kbN k, Nat.pow_succ, BitVec.toNat_ofNat, Nat.mul_comm (256 ^ k) 256, Nat.mod_mul]
theorem pow32 : (256 : Nat) ^ 32 = M256 := by decide
theorem P_lt : P < M256 := by decide
theorem P_pos : 0 < P := by decide
theorem leN_kb {n : Nat} (h : n < M256) : leN (kb n) = n := by
  unfold kb; rw [leN_kbN, pow32, Nat.mod_eq_of_lt h]
theorem leN_lt32 {l : List B8} (h : l.length = 32) : leN l < M256 := by
  have := leN_lt l; rw [h, pow32] at this; exact this
/-- the number of four parts -/
def vn : List Nat → Nat
  | [a, b, c, d] => a + M64 * b + M64 * M64 * c + M64 * M64 * M64 * d
  | _ => 0
/-- four parts -/
structure Lm (l : List Nat) : Prop where
  len : l.length = 4
  lt : ∀ x ∈ l, x < M64
theorem Lm.ex {l : List Nat} (h : Lm l) : ∃ a b c d, l = [a, b, c, d] ∧ a < M64 ∧ b < M64 ∧ c < M64 ∧ d < M64 := by
  match l, h.len, h.lt with
  | [a, b, c, d], _, h => exact ⟨a, b, c, d, rfl, h a (by simp), h b (by simp), h c (by simp), h d (by simp)⟩
theorem Lm.mk4 {a b c d : Nat} (h1 : a < M64) (h2 : b < M64) (h3 : c < M64) (h4 : d < M64) : Lm [a, b, c, d] :=
  ⟨rfl, fun x hx => by simp at hx; rcases hx with rfl | rfl | rfl | rfl <;> assumption⟩
theorem Lm.vlt {l : List Nat} (h : Lm l) : vn l < M256 := by
  obtain ⟨a, b, c, d, rfl, h1, h2, h3, h4⟩ := h.ex
  simp only [vn, M64, M256] at *; omega
theorem fold_mod (v o : Nat) : (v + 38 * o) % P = (v + M256 * o) % P := by
  have e : v + M256 * o = v + 38 * o + P * (2 * o) := by simp only [M256, P]; omega
  rw [e, Nat.add_mul_mod_self_left]
/-- the four parts of a number -/
def limbs (n : Nat) : List Nat := [n % M64, n / M64 % M64, n / M64 / M64 % M64, n / M64 / M64 / M64 % M64]
@[simp] theorem limbs_len (n : Nat) : (limbs n).length = 4 := rfl
theorem vn_limbs (n : Nat) : vn (limbs n) = n % M256 := by
  have h1 := Nat.mod_mul (x := n) (a := M64) (b := M64 * M64 * M64)
  have h2 := Nat.mod_mul (x := n / M64) (a := M64) (b := M64 * M64)
  have h3 := Nat.mod_mul (x := n / M64 / M64) (a := M64) (b := M64)
  simp only [limbs, vn]
  have e : M64 * (M64 * M64 * M64) = M256 := by decide
  rw [e] at h1
  rw [h1, show M64 * M64 * M64 = M64 * (M64 * M64) from rfl, h2, h3]
  simp only [M64]; omega
theorem limbs_lm (n : Nat) : Lm (limbs n) := Lm.mk4 (Nat.mod_lt _ (by decide)) (Nat.mod_lt _ (by decide)) (Nat.mod_lt _ (by decide)) (Nat.mod_lt _ (by decide))
theorem limbs_vn {l : List Nat} (h : Lm l) : limbs (vn l) = l := by
  obtain ⟨a, b, c, d, rfl, h1, h2, h3, h4⟩ := h.ex
  simp only [vn, limbs]
  simp only [M64] at *
  congr 1
  · omega
  congr 1
  · omega
  congr 1
  · omega
  congr 1
  omega
theorem limbs_mod (n : Nat) : limbs (n % M256) = limbs n := by rw [← vn_limbs, limbs_vn (limbs_lm n)]
/-- what stands above comes back -/
def fold1 (n : Nat) : Nat := n % M256 + 38 * (n / M256)
def red (n : Nat) : Nat := fold1 (fold1 n)
theorem fold1_P (n : Nat) : fold1 n % P = n % P := by
  unfold fold1
  rw [fold_mod]
  congr 1
  exact Nat.mod_add_div n M256
theorem fold1_lt {n : Nat} (h : n < M256) : fold1 n = n := by
  unfold fold1
  rw [Nat.mod_eq_of_lt h, Nat.div_eq_of_lt h]; rfl
theorem red_P (n : Nat) : red n % P = n % P := by unfold red; rw [fold1_P, fold1_P]
theorem red_lt {n : Nat} (h : n < M256 * 288230376151711744) : red n < M256 := by
  have h1 : n / M256 < 288230376151711744 := Nat.div_lt_of_lt_mul h
  have h2 := Nat.mod_lt n (show 0 < M256 by decide)
  unfold red fold1
  simp only [M256] at *
  omega
def addV (x y : Nat) : Nat := red (x % M256 + y % M256)
def subV (x y : Nat) : Nat :=
  if y % M256 ≤ x % M256 then x % M256 - y % M256 else if 38 ≤ x % M256 + M256 - y % M256 then x % M256 + M256 - y % M256 - 38 else x % M256 + M256 - y % M256 + M256 - 76
def mulV (x y : Nat) : Nat := red (fold1 ((x % M256) * (y % M256)))
def sqV (x : Nat) : Nat → Nat
  | 0 => x
  | n + 1 => mulV (sqV x n) (sqV x n)
def keyV (x : Nat) : List B8 := cn (x % M256)
@[simp] theorem keyV_len (n : Nat) : (keyV n).length = 32 := cn_len _
end Go.Proofs.YtgclegdgngldoaaDoor.Fp
set_option linter.unusedVariables false
namespace Go.Proofs.YtgclegdgngldoaaDoor.Fp
theorem Lm.set {l : List Nat} (h : Lm l) (i x : Nat) (hx : x < M64) : Lm (l.set i x) := ⟨by simp [h.len], fun y hy => by
  rcases List.mem_or_eq_of_mem_set hy with e | e
  · exact h.lt y e
  · rw [e]; exact hx⟩
theorem Lm.getD {l : List Nat} (h : Lm l) (i : Nat) : l.getD i 0 < M64 := by
  rw [List.getD_eq_getElem?_getD]
  cases e : l[i]? with
  | none => simp [M64]
  | some y => exact h.lt y (List.mem_of_getElem? e)
/-- one part is set -/
theorem vn_set {l : List Nat} (h : Lm l) {i : Nat} (hi : i < 4) (x : Nat) : vn (l.set i x) + M64 ^ i * l.getD i 0 = vn l + M64 ^ i * x := by
  obtain ⟨a, b, c, d, rfl, _⟩ := h.ex
  match i, hi with
  | 0, _ => simp [vn]; omega
  | 1, _ => simp [vn, M64]; omega
  | 2, _ => simp [vn, M64]; omega
  | 3, _ => simp [vn, M64]; omega
/-- a carry goes up -/
def rip (l : List Nat) (n : Nat) : Nat → List Nat × Nat
  | 0 => (l, n)
  | i + 1 => ((rip l n i).1.set i (((rip l n i).1.getD i 0 + (rip l n i).2) % M64), ((rip l n i).1.getD i 0 + (rip l n i).2) / M64)
theorem mul_mod_div (p s : Nat) : p * (s % M64) + p * M64 * (s / M64) = p * s := by
  rw [Nat.mul_assoc, ← Nat.mul_add, Nat.mod_add_div]
theorem rip_spec {l : List Nat} (h : Lm l) (n : Nat) : ∀ i, i ≤ 4 → Lm (rip l n i).1 ∧ vn (rip l n i).1 + M64 ^ i * (rip l n i).2 = vn l + n
  | 0, _ => ⟨h, by simp [rip]⟩
  | i + 1, hi => by
    obtain ⟨h1, h2⟩ := rip_spec h n i (by omega)
    refine ⟨h1.set _ _ (Nat.mod_lt _ (by decide)), ?_⟩
    have h3 := vn_set h1 (show i < 4 by omega) (((rip l n i).1.getD i 0 + (rip l n i).2) % M64)
    have h4 := mul_mod_div (M64 ^ i) ((rip l n i).1.getD i 0 + (rip l n i).2)
    rw [Nat.mul_add] at h4
    simp only [rip, Nat.pow_succ]
    omega
theorem lm_eq {l : List Nat} (h : Lm l) {v c n : Nat} (e : vn l + M256 * c = n) : l = limbs n ∧ c = n / M256 := by
  have h1 := h.vlt
  have h2 : vn l = n % M256 := by rw [← e, Nat.add_mul_mod_self_left, Nat.mod_eq_of_lt h1]
  refine ⟨by rw [← limbs_mod, ← h2, limbs_vn h], ?_⟩
  rw [← e, Nat.add_mul_div_left _ _ (by decide), Nat.div_eq_of_lt h1]; omega
theorem M64_pow4 : M64 ^ 4 = M256 := by decide
theorem rip4 (x n : Nat) : (rip (limbs x) n 4).1 = limbs (x % M256 + n) ∧ (rip (limbs x) n 4).2 = (x % M256 + n) / M256 := by
  obtain ⟨h1, h2⟩ := rip_spec (limbs_lm x) n 4 (Nat.le_refl _)
  rw [M64_pow4, vn_limbs] at h2
  exact lm_eq (v := 0) h1 h2
/-- a sum, part by part -/
def aL (l m : List Nat) : Nat → List Nat × Nat
  | 0 => (l, 0)
  | i + 1 => ((aL l m i).1.set i (((aL l m i).1.getD i 0 + m.getD i 0 + (aL l m i).2) % M64), ((aL l m i).1.getD i 0 + m.getD i 0 + (aL l m i).2) / M64)
/-- the lowest parts -/
def pv (m : List Nat) : Nat → Nat
  | 0 => 0
  | i + 1 => pv m i + M64 ^ i * m.getD i 0
theorem pv4 {m : List Nat} (h : Lm m) : pv m 4 = vn m := by
  obtain ⟨a, b, c, d, rfl, _⟩ := h.ex
  simp [pv, vn, M64]
theorem aL_spec {l m : List Nat} (h : Lm l) (hm : Lm m) : ∀ i, i ≤ 4 → Lm (aL l m i).1 ∧ (aL l m i).2 ≤ 1 ∧ vn (aL l m i).1 + M64 ^ i * (aL l m i).2 = vn l + pv m i
  | 0, _ => ⟨h, by simp [aL], by simp [aL, pv]⟩
  | i + 1, hi => by
    obtain ⟨h1, h0, h2⟩ := aL_spec h hm i (by omega)
    refine ⟨h1.set _ _ (Nat.mod_lt _ (by decide)), ?_, ?_⟩
    · have q1 := h1.getD i
      have q2 := hm.getD i
      simp only [aL]
      simp only [M64] at *
      omega
    · have h3 := vn_set h1 (show i < 4 by omega) (((aL l m i).1.getD i 0 + m.getD i 0 + (aL l m i).2) % M64)
      have h4 := mul_mod_div (M64 ^ i) ((aL l m i).1.getD i 0 + m.getD i 0 + (aL l m i).2)
      rw [Nat.mul_add, Nat.mul_add] at h4
      simp only [aL, pv, Nat.pow_succ]
      omega
theorem aL4 (x y : Nat) : (aL (limbs x) (limbs y) 4).1 = limbs (x % M256 + y % M256) ∧ (aL (limbs x) (limbs y) 4).2 = (x % M256 + y % M256) / M256 := by
  obtain ⟨h1, _, h2⟩ := aL_spec (limbs_lm x) (limbs_lm y) 4 (Nat.le_refl _)
  rw [M64_pow4, vn_limbs, pv4 (limbs_lm y), vn_limbs] at h2
  exact lm_eq (v := 0) h1 h2
/-- a difference, part by part: l, less m, into r -/
def sL (r l m : List Nat) (b : Nat) : Nat → List Nat × Nat
  | 0 => (r, b)
  | i + 1 => ((sL r l m b i).1.set i ((l.getD i 0 + 18446744073709551616 - m.getD i 0 - (sL r l m b i).2) % 18446744073709551616), if l.getD i 0 < m.getD i 0 + (sL r l m b i).2 then 1 else 0)
theorem sub_step {a m b : Nat} (ha : a < M64) (hm : m < M64) (hb : b ≤ 1) : (a + 18446744073709551616 - m - b) % 18446744073709551616 + m + b = a + M64 * (if a < m + b then 1 else 0) := by
  simp only [M64] at *
  split <;> omega
/-- in place -/
def dL (l m : List Nat) (b : Nat) : Nat → List Nat × Nat
  | 0 => (l, b)
  | i + 1 => ((dL l m b i).1.set i (((dL l m b i).1.getD i 0 + 18446744073709551616 - m.getD i 0 - (dL l m b i).2) % 18446744073709551616), if (dL l m b i).1.getD i 0 < m.getD i 0 + (dL l m b i).2 then 1 else 0)
theorem dL_spec {l m : List Nat} (h : Lm l) (hm : Lm m) (b : Nat) (hb : b ≤ 1) : ∀ i, i ≤ 4 → Lm (dL l m b i).1 ∧ (dL l m b i).2 ≤ 1 ∧ vn (dL l m b i).1 + pv m i + b = vn l + M64 ^ i * (dL l m b i).2
  | 0, _ => ⟨h, hb, by simp [dL, pv]⟩
  | i + 1, hi => by
    obtain ⟨h1, h0, h2⟩ := dL_spec h hm b hb i (by omega)
    have h5 := sub_step (h1.getD i) (hm.getD i) h0
    refine ⟨h1.set _ _ (Nat.mod_lt _ (by decide)), by simp only [dL]; split <;> omega, ?_⟩
    have h3 := vn_set h1 (show i < 4 by omega) (((dL l m b i).1.getD i 0 + 18446744073709551616 - m.getD i 0 - (dL l m b i).2) % 18446744073709551616)
    have h6 := congrArg (M64 ^ i * ·) h5
    simp only [Nat.mul_add] at h6
    simp only [dL, pv, Nat.pow_succ]
    rw [Nat.mul_assoc]
    omega
theorem lm_sub {l : List Nat} (h : Lm l) {c x y : Nat} (hx : x < M256) (hy : y < M256) (hc : c ≤ 1) (e : vn l + y = x + M256 * c) : l = limbs (if y ≤ x then x - y else x + M256 - y) ∧ c = if x < y then 1 else 0 := by
  have h1 := h.vlt
  have hv : vn l = if y ≤ x then x - y else x + M256 - y := by
    split <;> (simp only [M256] at *; omega)
  refine ⟨by rw [← hv, limbs_vn h], ?_⟩
  split <;> (simp only [M256] at *; omega)
theorem mod256_lt (x : Nat) : x % M256 < M256 := Nat.mod_lt _ (by decide)
theorem dL4 (x y : Nat) : (dL (limbs x) (limbs y) 0 4).1 = limbs (if y % M256 ≤ x % M256 then x % M256 - y % M256 else x % M256 + M256 - y % M256) ∧ (dL (limbs x) (limbs y) 0 4).2 = if x % M256 < y % M256 then 1 else 0 := by
  obtain ⟨h1, h0, h2⟩ := dL_spec (limbs_lm x) (limbs_lm y) 0 (by decide) 4 (Nat.le_refl _)
  rw [M64_pow4, vn_limbs, pv4 (limbs_lm y), vn_limbs] at h2
  exact lm_sub h1 (mod256_lt x) (mod256_lt y) h0 h2
/-- into another one -/
theorem sL_dL (l m : List Nat) (b : Nat) {r : List Nat} (hr : r.length = 4) (hl : l.length = 4) : ∀ i, i ≤ 4 → (sL r l m b i).2 = (dL l m b i).2 ∧ (∀ j, j < i → (sL r l m b i).1[j]? = (dL l m b i).1[j]?) ∧ (∀ j, i ≤ j → (dL l m b i).1[j]? = l[j]?) ∧ (sL r l m b i).1.length = 4 ∧ (dL l m b i).1.length = 4
  | 0, _ => ⟨rfl, fun j hj => absurd hj (Nat.not_lt_zero _), fun _ _ => rfl, hr, hl⟩
  | i + 1, hi => by
    obtain ⟨h1, h2, h3, h4, h5⟩ := sL_dL l m b hr hl i (by omega)
    have e : (dL l m b i).1.getD i 0 = l.getD i 0 := by rw [List.getD_eq_getElem?_getD, List.getD_eq_getElem?_getD, h3 i (Nat.le_refl _)]
    refine ⟨by simp only [sL, dL, h1, e], fun j hj => ?_, fun j hj => ?_, by simp [sL, h4], by simp [dL, h5]⟩
    · simp only [sL, dL, h1, e, List.getElem?_set, h4, h5]
      by_cases hji : i = j
      · subst hji; simp [show i < 4 by omega]
      · simp only [hji, if_false]; exact h2 j (by omega)
    · simp only [dL, List.getElem?_set]
      rw [if_neg (by omega)]; exact h3 j (by omega)
theorem sL4 (x y : Nat) {r : List Nat} (hr : r.length = 4) : (sL r (limbs x) (limbs y) 0 4).1 = limbs (if y % M256 ≤ x % M256 then x % M256 - y % M256 else x % M256 + M256 - y % M256) ∧ (sL r (limbs x) (limbs y) 0 4).2 = if x % M256 < y % M256 then 1 else 0 := by
  obtain ⟨h1, h2, _, h4, h5⟩ := sL_dL (limbs x) (limbs y) 0 hr rfl 4 (Nat.le_refl _)
  obtain ⟨h6, h7⟩ := dL4 x y
  refine ⟨?_, by rw [h1, h7]⟩
  rw [← h6]
  apply List.ext_getElem?
  intro j
  by_cases hj : j < 4
  · exact h2 j hj
  · rw [List.getElem?_eq_none (by omega), List.getElem?_eq_none (by omega)]
end Go.Proofs.YtgclegdgngldoaaDoor.Fp
set_option linter.unusedVariables false
namespace Go.Proofs.YtgclegdgngldoaaDoor.Fp
def vw : List Nat → Nat
  | [] => 0
  | x :: r => x + M64 * vw r
theorem vw_set : ∀ (l : List Nat) (k x : Nat), k < l.length → vw (l.set k x) + M64 ^ k * l.getD k 0 = vw l + M64 ^ k * x
  | [], k, x, h => by simp at h
  | y :: r, 0, x, _ => by simp [vw]; omega
  | y :: r, k + 1, x, h => by
    have := vw_set r k x (by simpa using h)
    have e := congrArg (M64 * ·) this
    simp only [Nat.mul_add, ← Nat.mul_assoc] at e
    simp only [List.set_cons_succ, vw, Nat.pow_succ, Nat.mul_comm (M64 ^ k) M64]
    have e2 : (y :: r).getD (k + 1) 0 = r.getD k 0 := rfl
    rw [e2]
    omega
def AL (l : List Nat) : Prop := ∀ x ∈ l, x < M64
theorem AL.set {l : List Nat} (h : AL l) (k x : Nat) (hx : x < M64) : AL (l.set k x) := fun y hy => by
  rcases List.mem_or_eq_of_mem_set hy with e | e
  · exact h y e
  · rw [e]; exact hx
theorem AL.getD {l : List Nat} (h : AL l) (k : Nat) : l.getD k 0 < M64 := by
  rw [List.getD_eq_getElem?_getD]
  cases e : l[k]? with
  | none => simp [M64]
  | some y => exact h y (List.mem_of_getElem? e)
theorem vw_four {l : List Nat} (h : l.length = 4) : vw l = vn l := by
  match l, h with
  | [a, b, c, d], _ => simp [vw, vn, M64]; omega
theorem vw_app : ∀ (l m : List Nat), vw (l ++ m) = vw l + M64 ^ l.length * vw m
  | [], m => by simp [vw]
  | x :: r, m => by
    simp only [List.cons_append, vw, vw_app r m, List.length_cons, Nat.pow_succ, Nat.mul_add, Nat.mul_comm (M64 ^ r.length) M64, Nat.mul_assoc]; omega
/-- a number times a digit, added to parts -/
def rL (L l : List Nat) (off d : Nat) : Nat → List Nat × Nat
  | 0 => (L, 0)
  | i + 1 => ((rL L l off d i).1.set (off + i) ((l.getD i 0 * d + (rL L l off d i).1.getD (off + i) 0 + (rL L l off d i).2) % M64), (l.getD i 0 * d + (rL L l off d i).1.getD (off + i) 0 + (rL L l off d i).2) / M64)
theorem tot_lt {x d y c : Nat} (hx : x < M64) (hd : d < M64) (hy : y < M64) (hc : c < M64) : x * d + y + c < M64 * M64 := by
  have h1 : x * d ≤ (M64 - 1) * (M64 - 1) := Nat.mul_le_mul (by omega) (by omega)
  have h2 : (M64 - 1) * (M64 - 1) = 340282366920938463426481119284349108225 := by decide
  rw [h2] at h1
  simp only [M64] at *
  omega
theorem rL_spec {L l : List Nat} (hL : AL L) (hl : AL l) {off d : Nat} (hd : d < M64) (hlen : off + 4 ≤ L.length) : ∀ i, i ≤ 4 → (rL L l off d i).1.length = L.length ∧ AL (rL L l off d i).1 ∧ (rL L l off d i).2 < M64 ∧
    vw (rL L l off d i).1 + M64 ^ (off + i) * (rL L l off d i).2 = vw L + M64 ^ off * (d * pv l i) ∧ ∀ j, j < off ∨ off + i ≤ j → (rL L l off d i).1.getD j 0 = L.getD j 0
  | 0, _ => ⟨rfl, hL, by simp [rL, M64], by simp [rL, pv], fun j _ => rfl⟩
  | i + 1, hi => by
    obtain ⟨h1, h2, h3, h4, h5⟩ := rL_spec hL hl hd hlen i (by omega)
    have ht := tot_lt (hl.getD i) hd (h2.getD (off + i)) h3
    refine ⟨by simp [rL, h1], h2.set _ _ (Nat.mod_lt _ (by decide)), Nat.div_lt_of_lt_mul ht, ?_, fun j hj => ?_⟩
    · have h6 := vw_set (rL L l off d i).1 (off + i) ((l.getD i 0 * d + (rL L l off d i).1.getD (off + i) 0 + (rL L l off d i).2) % M64) (by omega)
      have h7 := mul_mod_div (M64 ^ (off + i)) (l.getD i 0 * d + (rL L l off d i).1.getD (off + i) 0 + (rL L l off d i).2)
      rw [Nat.mul_add, Nat.mul_add] at h7
      have e1 : M64 ^ off * (d * pv l (i + 1)) = M64 ^ off * (d * pv l i) + M64 ^ (off + i) * (l.getD i 0 * d) := by
        simp only [pv]
        rw [Nat.mul_add, Nat.mul_add, Nat.pow_add]
        congr 1
        simp only [Nat.mul_assoc, Nat.mul_left_comm, Nat.mul_comm]
      rw [e1]
      simp only [rL]
      rw [show off + (i + 1) = off + i + 1 by omega, Nat.pow_succ]
      omega
    · simp only [rL]
      rw [List.getD_eq_getElem?_getD, List.getElem?_set, if_neg (by omega), ← List.getD_eq_getElem?_getD]
      exact h5 j (by omega)
/-- what the four rounds of a product leave -/
def mW (x y : Nat) : Nat → List Nat
  | 0 => List.replicate 8 0
  | i + 1 => (rL (mW x y i) (limbs x) i ((limbs y).getD i 0) 4).1.set (i + 4) (rL (mW x y i) (limbs x) i ((limbs y).getD i 0) 4).2
theorem lmAL {l : List Nat} (h : Lm l) : AL l := h.lt
theorem mW_spec (x y : Nat) : ∀ i, i ≤ 4 → (mW x y i).length = 8 ∧ AL (mW x y i) ∧ vw (mW x y i) = (x % M256) * pv (limbs y) i ∧ ∀ j, i + 4 ≤ j → (mW x y i).getD j 0 = 0
  | 0, _ => ⟨rfl, by intro z hz; rw [List.eq_of_mem_replicate hz]; decide, by show vw (List.replicate 8 0) = _ * 0; rw [Nat.mul_zero]; decide, fun j _ => by
    show (List.replicate 8 0).getD j 0 = 0
    rw [List.getD_eq_getElem?_getD, List.getElem?_replicate]; by_cases h : j < 8 <;> simp [h]⟩
  | i + 1, hi => by
    obtain ⟨h1, h2, h3, h4⟩ := mW_spec x y i (by omega)
    obtain ⟨k1, k2, k3, k4, k5⟩ := rL_spec h2 (lmAL (limbs_lm x)) (lmAL (limbs_lm y) |>.getD i) (off := i) (by omega) 4 (Nat.le_refl _)
    refine ⟨by simp only [mW, List.length_set]; rw [k1, h1], k2.set _ _ k3, ?_, fun j hj => ?_⟩
    · have h6 := vw_set (rL (mW x y i) (limbs x) i ((limbs y).getD i 0) 4).1 (i + 4) (rL (mW x y i) (limbs x) i ((limbs y).getD i 0) 4).2 (by omega)
      rw [k5 (i + 4) (by omega), h4 (i + 4) (by omega)] at h6
      rw [pv4 (limbs_lm x), vn_limbs, h3] at k4
      simp only [mW, pv, Nat.mul_add]
      have e : x % M256 * (M64 ^ i * (limbs y).getD i 0) = M64 ^ i * ((limbs y).getD i 0 * (x % M256)) := by simp only [Nat.mul_left_comm, Nat.mul_comm]
      rw [e]
      omega
    · simp only [mW]
      rw [List.getD_eq_getElem?_getD, List.getElem?_set, if_neg (by omega), ← List.getD_eq_getElem?_getD, k5 j (by omega)]
      exact h4 j (by omega)
theorem mW_end (x y : Nat) : (mW x y 4).length = 8 ∧ (mW x y 4).take 4 = limbs ((x % M256) * (y % M256)) ∧ (mW x y 4).drop 4 = limbs ((x % M256) * (y % M256) / M256) := by
  obtain ⟨h1, h2, h3, _⟩ := mW_spec x y 4 (Nat.le_refl _)
  rw [pv4 (limbs_lm y), vn_limbs] at h3
  have l1 : ((mW x y 4).take 4).length = 4 := by simp [h1]
  have l2 : ((mW x y 4).drop 4).length = 4 := by simp [h1]
  have m1 : Lm ((mW x y 4).take 4) := ⟨l1, fun z hz => h2 z (List.mem_of_mem_take hz)⟩
  have m2 : Lm ((mW x y 4).drop 4) := ⟨l2, fun z hz => h2 z (List.mem_of_mem_drop hz)⟩
  have e := vw_app ((mW x y 4).take 4) ((mW x y 4).drop 4)
  rw [List.take_append_drop, l1, M64_pow4, vw_four l1, vw_four l2, h3] at e
  obtain ⟨e1, e2⟩ := lm_eq (v := 0) m1 e.symm
  refine ⟨h1, e1, ?_⟩
  rw [← e2, limbs_vn m2]
theorem row38 (p : Nat) : (rL (limbs p) (limbs (p / M256)) 0 38 4).1 = limbs (p % M256 + 38 * (p / M256 % M256)) ∧ (rL (limbs p) (limbs (p / M256)) 0 38 4).2 = (p % M256 + 38 * (p / M256 % M256)) / M256 := by
  obtain ⟨k1, k2, k3, k4, _⟩ := rL_spec (lmAL (limbs_lm p)) (lmAL (limbs_lm (p / M256))) (off := 0) (d := 38) (by decide) (by simp) 4 (Nat.le_refl _)
  rw [show 0 + 4 = 4 from rfl, M64_pow4, pv4 (limbs_lm _), vn_limbs, vw_four k1, vw_four rfl, vn_limbs] at k4
  simp only [Nat.pow_zero, Nat.one_mul] at k4
  exact lm_eq (v := 0) ⟨k1, k2⟩ k4
theorem fold1_mul (x y : Nat) : (x % M256) * (y % M256) % M256 + 38 * ((x % M256) * (y % M256) / M256 % M256) = fold1 ((x % M256) * (y % M256)) := by
  unfold fold1
  have h : (x % M256) * (y % M256) / M256 < M256 := by
    refine Nat.div_lt_of_lt_mul ?_
    have h1 := Nat.mod_lt x (show 0 < M256 by decide)
    have h2 := Nat.mod_lt y (show 0 < M256 by decide)
    exact Nat.mul_lt_mul'' h1 h2
  rw [Nat.mod_eq_of_lt h]
theorem fold1_mul_lt (x y : Nat) : fold1 ((x % M256) * (y % M256)) < M256 * 288230376151711744 := by
  rw [← fold1_mul]
  have h1 := Nat.mod_lt ((x % M256) * (y % M256)) (show 0 < M256 by decide)
  have h2 := Nat.mod_lt ((x % M256) * (y % M256) / M256) (show 0 < M256 by decide)
  simp only [M256] at *
  omega
end Go.Proofs.YtgclegdgngldoaaDoor.Fp
set_option linter.unusedVariables false
namespace Go.Proofs.YtgclegdgngldoaaDoor.Fp
/-! digits below 256, and what is over -/
def spC (l : List Nat) : Nat → Nat
  | 0 => 0
  | i + 1 => (l.getD i 0 + spC l i) / 256
def spL (l : List Nat) (i : Nat) : List Nat := (List.range i).map fun j => (l.getD j 0 + spC l j) % 256
def spr (l : List Nat) : List Nat := spL l l.length ++ [spC l l.length]
/-! what stands above the 32nd digit comes back 38 times -/
def fL (d : List Nat) : Nat → List Nat
  | 0 => List.replicate 32 0
  | i + 1 => if i < 32 then (fL d i).set i ((fL d i).getD i 0 + d.getD i 0) else (fL d i).set (i - 32) ((fL d i).getD (i - 32) 0 + 38 * d.getD i 0)
/-- one round -/
def rd (d : List Nat) : List Nat := spr (fL d d.length)
def rdn (l : List Nat) : Nat → List Nat
  | 0 => l
  | n + 1 => rd (rdn l n)
def carL (l : List Nat) : List B8 := ((rdn l 4).take 32).map (BitVec.ofNat 8)
end Go.Proofs.YtgclegdgngldoaaDoor.Fp
set_option linter.unusedVariables false
namespace Go.Proofs.YtgclegdgngldoaaDoor.Fp
def prd (i : Nat) : Nat := if i = 0 then 237 else if i = 31 then 127 else 255
def pl : List Nat := (List.range 32).map prd
def tn (a : List B8) : List Nat := a.map (·.toNat)
/-- a number, less p -/
def ls (a : List B8) : Nat → List B8 × Nat
  | 0 => (a, 0)
  | i + 1 => ((ls a i).1.set i (BitVec.ofNat 8 (((ls a i).1.getD i 0).toNat + 256 - prd i - (ls a i).2)), if ((ls a i).1.getD i 0).toNat < prd i + (ls a i).2 then 1 else 0)
attribute [local irreducible] ls pl prd P
end Go.Proofs.YtgclegdgngldoaaDoor.Fp
set_option linter.unusedVariables false
namespace Go.Proofs.YtgclegdgngldoaaDoor.Fp
/-- digits, with those of another number added -/
def aD (a b : List B8) : Nat → List Nat
  | 0 => tn a
  | i + 1 => (aD a b i).set i ((aD a b i).getD i 0 + (b.getD i 0).toNat)
def sD (a b : List B8) : Nat → List Nat
  | 0 => tn a
  | i + 1 => (sD a b i).set i ((sD a b i).getD i 0 + 4 * prd i - (b.getD i 0).toNat)
/-- a digit times a number, added from place i on -/
def mI (L : List Nat) (b : List B8) (i x : Nat) : Nat → List Nat
  | 0 => L
  | k + 1 => (mI L b i x k).set (i + k) ((mI L b i x k).getD (i + k) 0 + x * (b.getD k 0).toNat)
def mO (a b : List B8) : Nat → List Nat
  | 0 => List.replicate 64 0
  | i + 1 => mI (mO a b i) b i (a.getD i 0).toNat 32
/-- the power, bit by bit -/
def rp (a : Nat) : Nat → Nat
  | 0 => 1
  | n + 1 => let s := rp a n * rp a n % P; if 254 - n ≠ 2 ∧ 254 - n ≠ 4 then s * a % P else s
end Go.Proofs.YtgclegdgngldoaaDoor.Fp
set_option linter.unusedVariables false
set_option maxRecDepth 8000
namespace Go.Proofs.YtgclegdgngldoaaDoor.Fp
section
variable {D : F} (hD : NS D)
def Pt.mul (n : Nat) (p : Pt D) : Pt D := match n with
  | 0 => .O
  | n + 1 => (Pt.mul n p).add hD p
end
/-- the Montgomery form that belongs to a curve: s is 1 or -1, A is the form's number -/
structure Mo (D s A : F) : Prop where
  ns : NS D
  ss : s * s = 1
  a2 : s * A + 2 ≠ 0
  d : D * (s * A + 2) = s * A - 2
/-- (X : Z) stands for a point -/
def Rep {D : F} (s X Z : F) (q : Pt D) : Prop := X * (1 - q.y) = s * Z * (1 + q.y) ∧ ¬ (X = 0 ∧ Z = 0)
theorem lx1 {u s y : F} (h : u * (1 - y) = s * (1 + y)) (e : 1 - y = 0) : 2 * s = 0 := by grind
theorem lx2 {u s y : F} (h : u * (1 - y) = s * (1 + y)) (e : 1 + y = 0) : u * 2 = 0 := by grind
theorem le1 {d a b Y : F} (h : (1 - d) * Y = a - b) : (1 - d) * (1 + Y) = 1 - d + a - b := by grind
theorem le2 {d a b Y : F} (h : (1 - d) * Y = a - b) : (1 - d) * (1 - Y) = 1 - d - a + b := by grind
theorem le3 {D x1 x2 y1 y2 yb : F} (h : (1 - D * -x1 * x2 * y1 * y2) * yb = y1 * y2 - -x1 * x2) : (1 + D * x1 * x2 * y1 * y2) * (1 + yb) = 1 + D * x1 * x2 * y1 * y2 + y1 * y2 + x1 * x2 := by grind
theorem le4 {D x1 x2 y1 y2 yb : F} (h : (1 - D * -x1 * x2 * y1 * y2) * yb = y1 * y2 - -x1 * x2) : (1 + D * x1 * x2 * y1 * y2) * (1 - yb) = 1 + D * x1 * x2 * y1 * y2 - y1 * y2 - x1 * x2 := by grind
theorem le5 (a b c d e : F) : a * b * (c * d * e) = (b * c) * (a * d) * e := by grind
theorem le6 {D x1 y1 x2 y2 : F} (oq : x1 * x1 + y1 * y1 = 1 + D * x1 * x1 * y1 * y1) (oR : x2 * x2 + y2 * y2 = 1 + D * x2 * x2 * y2 * y2) :
    (1 - D * x1 * x2 * y1 * y2 + y1 * y2 - x1 * x2) * (1 + D * x1 * x2 * y1 * y2 + y1 * y2 + x1 * x2) * ((y1 - y2) * (y1 - y2)) =
    (1 - D * x1 * x2 * y1 * y2 - y1 * y2 + x1 * x2) * (1 + D * x1 * x2 * y1 * y2 - y1 * y2 - x1 * x2) * ((y1 + y2) * (y1 + y2)) := by grind
theorem lx3 {D x1 y1 x2 y2 Y yb : F} (oq : x1 * x1 + y1 * y1 = 1 + D * x1 * x1 * y1 * y1) (oR : x2 * x2 + y2 * y2 = 1 + D * x2 * x2 * y2 * y2) (b2 : (1 - D * x1 * x2 * y1 * y2) * Y = y1 * y2 - x1 * x2)
    (dy : (1 - D * -x1 * x2 * y1 * y2) * yb = y1 * y2 - -x1 * x2) :
    (1 + D * x1 * x2 * y1 * y2) * (1 - D * x1 * x2 * y1 * y2) * ((1 + Y) * (1 + yb) * ((y1 - y2) * (y1 - y2))) = (1 + D * x1 * x2 * y1 * y2) * (1 - D * x1 * x2 * y1 * y2) * ((1 - Y) * (1 - yb) * ((y1 + y2) * (y1 + y2))) := by
  rw [le5, le5, le1 b2, le2 b2, le3 dy, le4 dy]
  exact le6 oq oR
theorem lf1 {D x y : F} (h : y = 0) (o : x * x + y * y = 1 + D * x * x * y * y) : x * x = 1 := by grind
theorem lf2 {D x1 x2 y1 y2 yb : F} (h : y1 = 0) (dy : (1 - D * -x1 * x2 * y1 * y2) * yb = y1 * y2 - -x1 * x2) : yb = x1 * x2 := by grind
theorem lf3 {x1 x2 : F} : (1 - x1 * x2) * (1 + x1 * x2) = 1 - (x1 * x1) * (x2 * x2) := by grind
theorem lx4 {D x1 x2 y1 y2 yb : F} (h1 : y1 = 0) (h2 : y2 = 0) (oq : x1 * x1 + y1 * y1 = 1 + D * x1 * x1 * y1 * y1) (oR : x2 * x2 + y2 * y2 = 1 + D * x2 * x2 * y2 * y2) (dy : (1 - D * -x1 * x2 * y1 * y2) * yb = y1 * y2 - -x1 * x2) : (1 - yb) * (1 + yb) = 0 := by
  rw [lf2 h1 dy, lf3, lf1 h1 oq, lf1 h2 oR]; decide +kernel
theorem lx5 {s t r y1 y2 : F} (hss : s * s = 1) : s * t * (1 + y1) * (s * r * (1 + y2)) - t * (1 - y1) * (r * (1 - y2)) = 2 * (t * r) * (y1 + y2) := by grind
theorem lx6 {s t r y1 y2 : F} : s * t * (1 + y1) * (r * (1 - y2)) - t * (1 - y1) * (s * r * (1 + y2)) = 2 * s * (t * r) * (y1 - y2) := by grind
theorem lx7 {s u k y1 y2 Y yb : F} (hss : s * s = 1) (hbu : u * (1 - yb) = s * (1 + yb)) (key : (1 + Y) * (1 + yb) * ((y1 - y2) * (y1 - y2)) = (1 - Y) * (1 - yb) * ((y1 + y2) * (y1 + y2))) :
    (1 - yb) * (4 * (2 * k * (y1 + y2) * (2 * k * (y1 + y2))) * (1 - Y)) = (1 - yb) * (s * (u * (4 * (2 * s * k * (y1 - y2) * (2 * s * k * (y1 - y2))))) * (1 + Y)) := by
  have l3 : (1 - yb) * (4 * (2 * k * (y1 + y2) * (2 * k * (y1 + y2))) * (1 - Y)) = 16 * k * k * ((1 - Y) * (1 - yb) * ((y1 + y2) * (y1 + y2))) := by grind
  have l4 : (1 - yb) * (s * (u * (4 * (2 * s * k * (y1 - y2) * (2 * s * k * (y1 - y2))))) * (1 + Y)) = 16 * k * k * s * (u * (1 - yb)) * ((1 + Y) * ((y1 - y2) * (y1 - y2))) := by grind
  rw [l3, l4, hbu, ← key]
  clear l3 l4 hbu key
  grind
theorem lx8 {y1 y2 : F} (h1 : y1 + y2 = 0) (h2 : y1 - y2 = 0) : 2 * y1 = 0 := by grind
theorem lx9 {y1 y2 : F} (h1 : y1 + y2 = 0) (h2 : y1 = 0) : y2 = 0 := by grind
theorem lxa {D x y a b : F} (on : x * x + y * y = 1 + D * x * x * y * y) (h : (1 + D * -x * x * y * y) * a = -x * y + y * x) : (1 + D * -x * x * y * y) * a = (1 + D * -x * x * y * y) * 0 := by grind
theorem lxb {D x y a b : F} (on : x * x + y * y = 1 + D * x * x * y * y) (h : (1 - D * -x * x * y * y) * a = y * y - -x * x) : (1 - D * -x * x * y * y) * a = (1 - D * -x * x * y * y) * 1 := by grind
def uOf {D : F} (s : F) (q : Pt D) : F := s * (1 + q.y) * inv (1 - q.y)
theorem zero_pw (n : Nat) : (0 : F) ^ (n + 1) = 0 := by grind
theorem inv_of (m : Nat) (h : P - 2 = m + 1) : inv 0 = 0 := by unfold inv; rw [h]; exact zero_pw m
theorem inv_zero : inv 0 = 0 := inv_of (P - 3) (by decide +kernel)
section
variable {D s A : F} (M : Mo D s A)
include M
theorem Mo.s_ne : s ≠ 0 := fun h => by have := M.ss; rw [h] at this; exact absurd this (by decide +kernel)
theorem Rep.u {X Z : F} {q : Pt D} (h : Rep s X Z q) : X * inv Z = uOf s q := by
  obtain ⟨h1, h2⟩ := h
  have hs := M.s_ne
  unfold uOf
  by_cases hz : Z = 0
  · subst hz
    have hx : X ≠ 0 := fun e => h2 ⟨e, rfl⟩
    have : X * (1 - q.y) = 0 := by grind
    rcases mul_eq_zero this with e | e
    · exact absurd e hx
    · rw [e, inv_zero]; grind
  · have hy : 1 - q.y ≠ 0 := by
      intro e
      have e2 : 2 * (s * Z) = 0 := by grind
      exact mul_ne two_ne (mul_ne hs hz) e2
    have i1 := mul_inv hz; have i2 := mul_inv hy
    generalize inv Z = a at *
    generalize inv (1 - q.y) = b at *
    clear h2 hs hz hy
    have : X * a = X * a * ((1 - q.y) * b) := by grind
    rw [this]
    have : X * a * ((1 - q.y) * b) = (X * (1 - q.y)) * a * b := by grind
    rw [this, h1]
    grind
omit M in
theorem Rep.O : Rep (D := D) s 1 0 .O := by
  refine ⟨?_, fun h => absurd h.1 (by decide +kernel)⟩
  have e : (Pt.O : Pt D).y = 1 := rfl
  rw [e]; grind
theorem Rep.z0 {X : F} {q : Pt D} (h : Rep s X 0 q) : q = .O := by
  obtain ⟨h1, h2⟩ := h
  have hx : X ≠ 0 := fun e => h2 ⟨e, rfl⟩
  have : X * (1 - q.y) = 0 := by grind
  rcases mul_eq_zero this with e | e
  · exact absurd e hx
  · have hy : q.y = 1 := by grind
    have ho := q.on
    rw [hy] at ho
    have hx2 : q.x * q.x = D * (q.x * q.x) := by grind
    have hx0 : q.x = 0 := by
      apply Classical.byContradiction
      intro hne
      have := M.ns q.x q.x hx2
      exact hne this
    exact Pt.ext hx0 hy
theorem Rep.t {X Z : F} {q : Pt D} (h : Rep s X Z q) : ∃ t, t ≠ 0 ∧ X = s * t * (1 + q.y) ∧ Z = t * (1 - q.y) := by
  obtain ⟨h1, h2⟩ := h
  have hss := M.ss
  have h22 := mul_inv two_ne
  refine ⟨(s * X + Z) * inv 2, ?_, ?_, ?_⟩
  · intro h0
    apply h2
    generalize inv 2 = i at *
    have a1 : s * X + Z = 0 := by grind
    have a2 : s * X - Z = 0 := by grind
    have a3 : 2 * Z = 0 := by grind
    have hz : Z = 0 := (mul_eq_zero a3).resolve_left two_ne
    refine ⟨?_, hz⟩
    grind
  · generalize inv 2 = i at *; grind
  · generalize inv 2 = i at *; grind
omit M in
theorem Rep.point_u {u : F} {b : Pt D} (h : Rep s u 1 b) : u * (1 - b.y) = s * (1 + b.y) := by have := h.1; grind
omit M in
theorem neg_add (hD : NS D) (p : Pt D) : (Pt.neg p).add hD p = .O := by
  have x1 := add_x hD p.neg p; have y1 := add_y hD p.neg p
  have c1 := dp_ne hD p.neg p; have c2 := dm_ne hD p.neg p
  exact Pt.ext (cancel c1 (lxa (b := 0) p.on x1)) (cancel c2 (lxb (b := 0) p.on y1))
/-- the sum of two points whose difference is b -/
theorem Rep.add {X2 Z2 X3 Z3 u : F} {q b : Pt D} (h2 : Rep s X2 Z2 q) (h3 : Rep s X3 Z3 (q.add M.ns b)) (hb : Rep s u 1 b) (hu : u ≠ 0) :
    Rep s (4 * ((X2 * X3 - Z2 * Z3) * (X2 * X3 - Z2 * Z3))) (u * (4 * ((X2 * Z3 - Z2 * X3) * (X2 * Z3 - Z2 * X3)))) (q.add M.ns (q.add M.ns b)) := by
  obtain ⟨t, ht, g1, g2⟩ := h2.t M
  obtain ⟨r, hr, g3, g4⟩ := h3.t M
  rw [g1, g2, g3, g4]
  clear g1 g2 g3 g4 h2 h3
  have hbu := hb.point_u
  have hss := M.ss
  have hs := M.s_ne
  have hd : q.neg.add M.ns (q.add M.ns b) = b := by rw [← add_assoc, neg_add M.ns, zero_add]
  generalize q.add M.ns b = R at *
  have b2 := add_y M.ns q R
  have m1 := dp_ne M.ns q R; have m2 := dm_ne M.ns q R
  have hby1 : 1 - b.y ≠ 0 := fun e => mul_ne two_ne hs (lx1 hbu e)
  have hby2 : 1 + b.y ≠ 0 := fun e => mul_ne hu two_ne (lx2 hbu e)
  have dy := add_y M.ns q.neg R
  rw [hd] at dy
  have key : (1 + (q.add M.ns R).y) * (1 + b.y) * ((q.y - R.y) * (q.y - R.y)) = (1 - (q.add M.ns R).y) * (1 - b.y) * ((q.y + R.y) * (q.y + R.y)) :=
    cancel (mul_ne m1 m2) (lx3 q.on R.on b2 dy)
  have hnz : ¬ (q.y = 0 ∧ R.y = 0) := by
    rintro ⟨h1, h2⟩
    rcases mul_eq_zero (lx4 h1 h2 q.on R.on dy) with e | e
    · exact hby1 e
    · exact hby2 e
  unfold Rep
  rw [lx5 hss, lx6]
  refine ⟨cancel hby1 (lx7 hss hbu key), ?_⟩
  rintro ⟨z1, z2⟩
  have h4 : (4 : F) ≠ 0 := by decide +kernel
  have k1 := mul_ne ht hr
  have w1 : q.y + R.y = 0 := by
    have a := (mul_eq_zero z1).resolve_left h4
    have a := (mul_eq_zero a).elim id id
    exact (mul_eq_zero a).resolve_left (mul_ne two_ne k1)
  have w2 : q.y - R.y = 0 := by
    have a := (mul_eq_zero z2).resolve_left hu
    have a := (mul_eq_zero a).resolve_left h4
    have a := (mul_eq_zero a).elim id id
    exact (mul_eq_zero a).resolve_left (mul_ne (mul_ne two_ne hs) k1)
  have w4 := (mul_eq_zero (lx8 w1 w2)).resolve_left two_ne
  exact hnz ⟨w4, lx9 w1 w4⟩
end
end Go.Proofs.YtgclegdgngldoaaDoor.Fp
set_option linter.unusedVariables false
set_option maxRecDepth 8000
namespace Go.Proofs.YtgclegdgngldoaaDoor.Fp
structure St where
  x2 : F
  z2 : F
  x3 : F
  z3 : F
def twX (x z : F) : F := (x + z) * (x + z) * ((x - z) * (x - z))
def twZ (x z : F) : F := ((x + z) * (x + z) - (x - z) * (x - z)) * ((x + z) * (x + z) + 121665 * ((x + z) * (x + z) - (x - z) * (x - z)))
def smS (x z X Z : F) : F := (X - Z) * (x + z) + (X + Z) * (x - z)
def smT (x z X Z : F) : F := (X - Z) * (x + z) - (X + Z) * (x - z)
def smX (x z X Z : F) : F := smS x z X Z * smS x z X Z
def smZ (u x z X Z : F) : F := u * (smT x z X Z * smT x z X Z)
def lstep (u : F) (b : Bool) (s : St) : St :=
  bif b then ⟨smX s.x3 s.z3 s.x2 s.z2, smZ u s.x3 s.z3 s.x2 s.z2, twX s.x3 s.z3, twZ s.x3 s.z3⟩
  else ⟨twX s.x2 s.z2, twZ s.x2 s.z2, smX s.x2 s.z2 s.x3 s.z3, smZ u s.x2 s.z2 s.x3 s.z3⟩
/-- n steps, for the n highest ones of 255 bits -/
def lad (u : F) (k : Nat) : Nat → St
  | 0 => ⟨1, 0, u, 1⟩
  | n + 1 => lstep u ((k / 2 ^ (254 - n)) % 2 == 1) (lad u k n)
def gx (k : Nat) (u : F) : F := (lad u k 255).x2 * inv (lad u k 255).z2
section
variable {D s : F} (M : Mo D s 486662)
include M
omit M in
omit M in
omit M in
omit M in
omit M in
omit M in
omit M in
omit M in
omit M in
end
/-- Euler -/
def half : Nat := 28948022309329048855892746252171976963317496166410141009864396001978282409974
def D1 : F := 20800338683988658368647408995589388737092878452977063003340006470870624536394
def D2 : F := 28692721048178265397853269683490922171210976843790175684556505508326675974058
def I4 : F := 19681161376707505956807079304988542015446066515923890162744021073123829784752
def G : F := 48802004052532134862652268456126542835229456083994414501085850622543968879637
def e8 : Nat := 7237005577332262213973186563042994240829374041602535252466099000494570602494
def q1 (u : F) : F := u * u + 486662 * u + 1
/-- the order of the base point -/
def L : Nat := 7237005577332262213973186563042994240857116359379907606001950938285454250989
end Go.Proofs.YtgclegdgngldoaaDoor.Fp
