/-
  Primes, Fermat's little theorem and Pocklington's test, in plain Lean; own work.
  The field of 2^255 - 19 numbers, Edwards curves over it, and the ladder; own work.
-/

set_option linter.unusedVariables false
namespace Go.Proofs.YtgclegdgngldoaaDoor.Fp
def Prime (p : Nat) : Prop := 2 ≤ p ∧ ∀ d, d ∣ p → d = 1 ∨ d = p

theorem Prime.pos {p : Nat} (h : Prime p) : 0 < p := by have := h.1; omega
theorem Prime.coprime {p a : Nat} (h : Prime p) (ha : ¬ p ∣ a) : Nat.gcd p a = 1 := by
  rcases h.2 _ (Nat.gcd_dvd_left p a) with e | e
  · exact e
  · exact absurd (e ▸ Nat.gcd_dvd_right p a) ha
theorem Prime.dvd_mul {p a b : Nat} (h : Prime p) (hd : p ∣ a * b) : p ∣ a ∨ p ∣ b := by
  by_cases ha : p ∣ a
  · exact .inl ha
  · exact .inr (Nat.Coprime.dvd_of_dvd_mul_left (h.coprime ha) hd)
/-- choose -/
def ch : Nat → Nat → Nat
  | _, 0 => 1
  | 0, _ + 1 => 0
  | n + 1, k + 1 => ch n k + ch n (k + 1)
theorem ch_gt : ∀ (n k : Nat), n < k → ch n k = 0
  | 0, 0, h => by omega
  | 0, k + 1, h => rfl
  | n + 1, 0, h => by omega
  | n + 1, k + 1, h => by simp [ch, ch_gt n k (by omega), ch_gt n (k + 1) (by omega)]
theorem ch_self : ∀ n, ch n n = 1
  | 0 => rfl
  | n + 1 => by simp [ch, ch_self n, ch_gt n (n + 1) (by omega)]
theorem ch_zero (n : Nat) : ch n 0 = 1 := by cases n <;> rfl
theorem ch_mul : ∀ (n k : Nat), (k + 1) * ch (n + 1) (k + 1) = (n + 1) * ch n k
  | 0, 0 => rfl
  | 0, k + 1 => by simp [ch]
  | n + 1, 0 => by
    have := ch_mul n 0
    simp [ch, ch_zero] at this ⊢
    omega
  | n + 1, k + 1 => by
    have h1 := ch_mul n k
    have h2 := ch_mul n (k + 1)
    have e1 : ch (n + 1 + 1) (k + 1 + 1) = ch (n + 1) (k + 1) + ch (n + 1) (k + 1 + 1) := rfl
    have e2 : ch (n + 1) (k + 1) = ch n k + ch n (k + 1) := rfl
    rw [e1]
    have e3 : (k + 1 + 1) * ch (n + 1) (k + 1) = (n + 1) * ch n k + ch (n + 1) (k + 1) := by rw [Nat.succ_mul, h1]
    rw [Nat.mul_add, e3, h2, e2]
    simp only [Nat.mul_add, Nat.add_mul, Nat.one_mul]
    omega
theorem Prime.dvd_ch {p : Nat} (h : Prime p) (k : Nat) (h0 : 0 < k) (hk : k < p) : p ∣ ch p k := by
  obtain ⟨n, rfl⟩ : ∃ n, p = n + 1 := ⟨p - 1, by have := h.pos; omega⟩
  obtain ⟨j, rfl⟩ : ∃ j, k = j + 1 := ⟨k - 1, by omega⟩
  have e := ch_mul n j
  rcases h.dvd_mul (show n + 1 ∣ (j + 1) * ch (n + 1) (j + 1) by rw [e]; exact Nat.dvd_mul_right _ _) with hd | hd
  · exact absurd (Nat.le_of_dvd (by omega) hd) (by omega)
  · exact hd
/-- the first m members of (a + 1)^n -/
def S (a n : Nat) : Nat → Nat
  | 0 => 0
  | m + 1 => S a n m + ch n m * a ^ m
theorem S_succ (a n : Nat) : ∀ m, S a (n + 1) (m + 1) = S a n (m + 1) + a * S a n m
  | 0 => by simp [S, ch_zero]
  | m + 1 => by
    have ih := S_succ a n m
    show S a (n + 1) (m + 1) + ch (n + 1) (m + 1) * a ^ (m + 1) = (S a n (m + 1) + ch n (m + 1) * a ^ (m + 1)) + a * (S a n m + ch n m * a ^ m)
    rw [ih]
    have e : ch (n + 1) (m + 1) = ch n m + ch n (m + 1) := rfl
    rw [e, Nat.add_mul, Nat.mul_add, Nat.pow_succ]
    have : a * (ch n m * a ^ m) = ch n m * (a ^ m * a) := by rw [Nat.mul_left_comm, Nat.mul_comm a (a ^ m)]
    omega
theorem binomial (a : Nat) : ∀ n, (a + 1) ^ n = S a n (n + 1)
  | 0 => by simp [S, ch]
  | n + 1 => by
    rw [S_succ, Nat.pow_succ, binomial a n]
    have e : S a n (n + 1 + 1) = S a n (n + 1) + ch n (n + 1) * a ^ (n + 1) := rfl
    rw [e, ch_gt n (n + 1) (by omega), Nat.zero_mul, Nat.add_zero, Nat.mul_add, Nat.mul_one, Nat.mul_comm a]
    omega
theorem Prime.S_mod {p : Nat} (h : Prime p) (a : Nat) : ∀ m, m < p → S a p (m + 1) % p = 1
  | 0, _ => by simp [S, ch_zero]; exact Nat.mod_eq_of_lt h.1
  | m + 1, hm => by
    show (S a p (m + 1) + ch p (m + 1) * a ^ (m + 1)) % p = 1
    obtain ⟨c, hc⟩ := h.dvd_ch (m + 1) (by omega) hm
    rw [hc, Nat.mul_assoc, Nat.add_mul_mod_self_left, h.S_mod a m (by omega)]
theorem Prime.add_one_pow {p : Nat} (h : Prime p) (a : Nat) : (a + 1) ^ p % p = (a ^ p + 1) % p := by
  obtain ⟨n, hn⟩ : ∃ n, p = n + 1 := ⟨p - 1, by have := h.pos; omega⟩
  rw [binomial]
  show (S a p p + ch p p * a ^ p) % p = _
  rw [ch_self, Nat.one_mul, Nat.add_comm (S a p p)]
  have : S a p p % p = 1 % p := by
    have := h.S_mod a n (by omega)
    rw [← hn] at this
    rw [this, Nat.mod_eq_of_lt h.1]
  rw [Nat.add_mod, this, ← Nat.add_mod]
theorem Prime.pow_self {p : Nat} (h : Prime p) : ∀ a, a ^ p % p = a % p
  | 0 => by rw [Nat.zero_pow h.pos]
  | a + 1 => by rw [h.add_one_pow, Nat.add_mod, h.pow_self a, ← Nat.add_mod]
theorem Prime.cancel {p a b c : Nat} (h : Prime p) (hc : ¬ p ∣ c) (e : c * a % p = c * b % p) : a % p = b % p := by
  have key : ∀ a b : Nat, a ≤ b → c * a % p = c * b % p → a % p = b % p := by
    intro a b hle e
    have hd : p ∣ c * b - c * a := Nat.dvd_of_mod_eq_zero (Nat.sub_mod_eq_zero_of_mod_eq e.symm)
    rw [← Nat.mul_sub] at hd
    rcases h.dvd_mul hd with hd | hd
    · exact absurd hd hc
    · obtain ⟨k, hk⟩ := hd
      have : b = a + p * k := by omega
      rw [this, Nat.add_mul_mod_self_left]
  rcases Nat.le_total a b with hle | hle
  · exact key a b hle e
  · exact (key b a hle e.symm).symm
theorem Prime.fermat {p a : Nat} (h : Prime p) (ha : ¬ p ∣ a) : a ^ (p - 1) % p = 1 := by
  have e := h.pow_self a
  obtain ⟨n, hn⟩ : ∃ n, p = n + 1 := ⟨p - 1, by have := h.pos; omega⟩
  have e2 : a * a ^ (p - 1) % p = a * 1 % p := by
    rw [Nat.mul_one, ← e, Nat.mul_comm, ← Nat.pow_succ]; congr 2; omega
  have := h.cancel ha e2
  rw [this, Nat.mod_eq_of_lt h.1]
/-- powers that are one -/
theorem pow_gcd {b n : Nat} (hn : 1 < n) : ∀ x y : Nat, b ^ x % n = 1 → b ^ y % n = 1 → b ^ (Nat.gcd x y) % n = 1 := by
  intro x y
  induction x, y using Nat.gcd.induction with
  | H0 y => intro _ h; simpa using h
  | H1 x y hx ih =>
    intro h1 h2
    rw [Nat.gcd_rec]
    refine ih ?_ h1
    have e : b ^ y = (b ^ x) ^ (y / x) * b ^ (y % x) := by rw [← Nat.pow_mul, ← Nat.pow_add, Nat.div_add_mod]
    rw [e, Nat.mul_mod, Nat.pow_mod, h1, Nat.one_pow, Nat.mod_eq_of_lt hn, Nat.one_mul, Nat.mod_mod] at h2
    exact h2
/-- the least divisor that is not one is a prime -/
theorem exists_prime_dvd : ∀ n : Nat, 2 ≤ n → ∃ r, Prime r ∧ r ∣ n := by
  intro n
  induction n using Nat.strongRecOn with
  | _ n ih =>
    intro h
    by_cases hp : Prime n
    · exact ⟨n, hp, Nat.dvd_refl _⟩
    · have : ∃ d, d ∣ n ∧ d ≠ 1 ∧ d ≠ n := by
        apply Classical.byContradiction
        intro hno
        exact hp ⟨h, fun d hd => by
          apply Classical.byContradiction
          intro h2
          exact hno ⟨d, hd, fun e => h2 (.inl e), fun e => h2 (.inr e)⟩⟩
      obtain ⟨d, hd, h1, h2⟩ := this
      have hle := Nat.le_of_dvd (by omega) hd
      have h0 : d ≠ 0 := by rintro rfl; rw [Nat.zero_dvd] at hd; omega
      obtain ⟨r, hr, hrd⟩ := ih d (by omega) (by omega)
      exact ⟨r, hr, Nat.dvd_trans hrd hd⟩
theorem exists_small {n : Nat} (h : 2 ≤ n) (hp : ¬ Prime n) : ∃ r, Prime r ∧ r ∣ n ∧ r * r ≤ n := by
  have : ∃ d, d ∣ n ∧ d ≠ 1 ∧ d ≠ n := by
    apply Classical.byContradiction
    intro hno
    exact hp ⟨h, fun d hd => by
      apply Classical.byContradiction
      intro h2
      exact hno ⟨d, hd, fun e => h2 (.inl e), fun e => h2 (.inr e)⟩⟩
  obtain ⟨d, ⟨e, he⟩, h1, h2⟩ := this
  have hd0 : d ≠ 0 := by rintro rfl; simp at he; omega
  have he0 : e ≠ 0 := by rintro rfl; simp at he; omega
  have he1 : e ≠ 1 := by rintro rfl; simp at he; omega
  rcases Nat.le_total d e with hle | hle
  · obtain ⟨r, hr, hrd⟩ := exists_prime_dvd d (by omega)
    refine ⟨r, hr, Nat.dvd_trans hrd ⟨e, he⟩, ?_⟩
    have := Nat.le_of_dvd (by omega) hrd
    rw [he]; exact Nat.mul_le_mul this (by omega)
  · obtain ⟨r, hr, hrd⟩ := exists_prime_dvd e (by omega)
    refine ⟨r, hr, Nat.dvd_trans hrd ⟨d, by rw [he, Nat.mul_comm]⟩, ?_⟩
    have := Nat.le_of_dvd (by omega) hrd
    rw [he]; exact Nat.mul_le_mul (by omega) this
/-- powers, by squares -/
def pm (m b : Nat) : Nat → Nat → Nat
  | 0, _ => 1 % m
  | k + 1, e => if e % 2 = 1 then pm m b k (e / 2) * pm m b k (e / 2) % m * b % m else pm m b k (e / 2) * pm m b k (e / 2) % m
def sqm (m b : Nat) (o : Bool) (h : Nat) : Nat := cond o (h * h % m * b % m) (h * h % m)
/-- .. in one pass -/
def pw (m b : Nat) : Nat → Nat → Nat
  | 0, _ => 1 % m
  | k + 1, e => sqm m b (Nat.beq (e % 2) 1) (pw m b k (e / 2))
theorem pw_eq (m b : Nat) : ∀ k e, e < 2 ^ k → pw m b k e = b ^ e % m
  | 0, e, h => by
    have : e = 0 := by simpa using h
    subst this; rfl
  | k + 1, e, h => by
    have ih := pw_eq m b k (e / 2) (by rw [Nat.pow_succ] at h; omega)
    unfold pw sqm
    rw [ih]
    have e2 : e = 2 * (e / 2) + e % 2 := by omega
    rcases Nat.mod_two_eq_zero_or_one e with h0 | h0
    · have hb : Nat.beq (e % 2) 1 = false := by rw [h0]; rfl
      rw [hb]
      show _ = _
      conv => rhs; rw [e2, h0, Nat.add_zero, Nat.mul_comm, Nat.pow_mul, Nat.pow_two]
      simp [Nat.mul_mod]
    · have hb : Nat.beq (e % 2) 1 = true := by rw [h0]; rfl
      rw [hb]
      show _ = _
      conv => rhs; rw [e2, h0, Nat.pow_succ, Nat.mul_comm 2, Nat.pow_mul, Nat.pow_two]
      simp [Nat.mul_mod]
/-- one factor of Pocklington's test -/
theorem pock_dvd {n q m a r : Nat} (hq : Prime q) (hn : n - 1 = q * m) (h1 : a ^ (n - 1) % n = 1) (hg : Nat.gcd (a ^ m % n + (n - 1)) n = 1) (hn1 : 1 < n) (hr : Prime r) (hrn : r ∣ n) : q ∣ r - 1 := by
  have hr1 : 1 < r := hr.1
  obtain ⟨c, hc⟩ := hrn
  have hmod : ∀ x, x % n % r = x % r := fun x => Nat.mod_mod_of_dvd x ⟨c, hc⟩
  have e1 : (a ^ m) ^ q % r = 1 := by
    rw [← Nat.pow_mul, Nat.mul_comm m q, ← hn, ← hmod, h1, Nat.mod_eq_of_lt hr1]
  have hra : ¬ r ∣ a ^ m := by
    intro hd
    have : (a ^ m) ^ q % r = 0 := by
      have : r ∣ (a ^ m) ^ q := Nat.dvd_trans hd (by obtain ⟨j, hj⟩ : ∃ j, q = j + 1 := ⟨q - 1, by have := hq.pos; omega⟩; rw [hj, Nat.pow_succ]; exact Nat.dvd_mul_left _ _)
      exact Nat.mod_eq_zero_of_dvd this
    omega
  have e2 := hr.fermat hra
  apply Classical.byContradiction
  intro hnd
  have hg1 := hq.coprime hnd
  have e3 := pow_gcd hr1 q (r - 1) e1 e2
  rw [hg1, Nat.pow_one] at e3
  have : r ∣ Nat.gcd (a ^ m % n + (n - 1)) n := by
    refine Nat.dvd_gcd ?_ ⟨c, hc⟩
    apply Nat.dvd_of_mod_eq_zero
    rw [Nat.add_mod, hmod, e3]
    have hz : (1 + (n - 1)) % r = 0 := by
      have : 1 + (n - 1) = r * c := by omega
      rw [this]; exact Nat.mul_mod_right _ _
    rw [Nat.add_mod] at hz
    rwa [Nat.mod_eq_of_lt hr1] at hz
  rw [hg] at this
  have := Nat.le_of_dvd (by omega) this
  omega
theorem pock1 {n q m a : Nat} (hq : Prime q) (hn : n - 1 = q * m) (h1 : a ^ (n - 1) % n = 1) (hg : Nat.gcd (a ^ m % n + (n - 1)) n = 1) (hn1 : 1 < n) (hs : n < (q + 1) * (q + 1)) : Prime n := by
  apply Classical.byContradiction
  intro hp
  obtain ⟨r, hr, hrn, hrr⟩ := exists_small (by omega) hp
  have hd := pock_dvd hq hn h1 hg hn1 hr hrn
  have := Nat.le_of_dvd (by have := hr.1; omega) hd
  have h2 : q + 1 ≤ r := by have := hr.1; omega
  have := Nat.mul_le_mul h2 h2
  omega
theorem pock2 {n q s m k a b : Nat} (hq : Prime q) (hs' : Prime s) (hqs : q ≠ s) (hn : n - 1 = q * m) (hn' : n - 1 = s * k) (h1 : a ^ (n - 1) % n = 1) (hg : Nat.gcd (a ^ m % n + (n - 1)) n = 1)
    (h1' : b ^ (n - 1) % n = 1) (hg' : Nat.gcd (b ^ k % n + (n - 1)) n = 1) (hn1 : 1 < n) (hs : n < (q * s + 1) * (q * s + 1)) : Prime n := by
  apply Classical.byContradiction
  intro hp
  obtain ⟨r, hr, hrn, hrr⟩ := exists_small (by omega) hp
  have hd := pock_dvd hq hn h1 hg hn1 hr hrn
  have hd' := pock_dvd hs' hn' h1' hg' hn1 hr hrn
  have hc : Nat.Coprime q s := hq.coprime (fun h => by
    rcases hs'.2 q h with e | e
    · have := hq.1; omega
    · exact hqs e)
  have hd2 := Nat.Coprime.mul_dvd_of_dvd_of_dvd hc hd hd'
  have := Nat.le_of_dvd (by have := hr.1; omega) hd2
  have h2 : q * s + 1 ≤ r := by have := hr.1; omega
  have := Nat.mul_le_mul h2 h2
  omega
/-- trial division -/
def tri (n : Nat) : Nat → Bool
  | 0 => true
  | k + 1 => (n % (k + 2) != 0) && tri n k
theorem tri_spec (n : Nat) : ∀ k, tri n k = true → ∀ d, 2 ≤ d → d < k + 2 → ¬ d ∣ n
  | 0, _, d, h1, h2 => by omega
  | k + 1, h, d, h1, h2 => by
    simp only [tri, Bool.and_eq_true, bne_iff_ne] at h
    by_cases e : d = k + 2
    · subst e; intro hd; exact h.1 (Nat.mod_eq_zero_of_dvd hd)
    · exact tri_spec n k h.2 d h1 (by omega)
theorem prime_tri {n k : Nat} (h2 : 2 ≤ n) (hk : n < (k + 2) * (k + 2)) (h : tri n k = true) : Prime n := by
  apply Classical.byContradiction
  intro hp
  obtain ⟨r, hr, hrn, hrr⟩ := exists_small h2 hp
  refine tri_spec n k h r hr.1 ?_ hrn
  apply Classical.byContradiction
  intro hge
  have := Nat.mul_le_mul (show k + 2 ≤ r by omega) (show k + 2 ≤ r by omega)
  omega
theorem pk1 {n q m a k : Nat} (hq : Prime q) (hn : n - 1 = q * m) (hk : n - 1 < 2 ^ k) (h1 : pw n a k (n - 1) = 1) (hg : Nat.gcd (pw n a k m + (n - 1)) n = 1) (hn1 : 1 < n) (hs : n < (q + 1) * (q + 1)) : Prime n := by
  have hm : m < 2 ^ k := by
    have := Nat.le_mul_of_pos_left m hq.pos
    omega
  rw [pw_eq _ _ _ _ hk] at h1
  rw [pw_eq _ _ _ _ hm] at hg
  exact pock1 hq hn h1 hg hn1 hs
theorem pk2 {n q s m j a b k : Nat} (hq : Prime q) (hs' : Prime s) (hqs : q ≠ s) (hn : n - 1 = q * m) (hn' : n - 1 = s * j) (hk : n - 1 < 2 ^ k) (h1 : pw n a k (n - 1) = 1) (hg : Nat.gcd (pw n a k m + (n - 1)) n = 1)
    (h1' : pw n b k (n - 1) = 1) (hg' : Nat.gcd (pw n b k j + (n - 1)) n = 1) (hn1 : 1 < n) (hs : n < (q * s + 1) * (q * s + 1)) : Prime n := by
  have hm : m < 2 ^ k := by
    have := Nat.le_mul_of_pos_left m hq.pos
    omega
  have hj : j < 2 ^ k := by
    have := Nat.le_mul_of_pos_left j hs'.pos
    omega
  rw [pw_eq _ _ _ _ hk] at h1 h1'
  rw [pw_eq _ _ _ _ hm] at hg
  rw [pw_eq _ _ _ _ hj] at hg'
  exact pock2 hq hs' hqs hn hn' h1 hg h1' hg' hn1 hs
theorem pr353 : Prime 353 := prime_tri (k := 18) (by decide) (by decide) (by decide +kernel)
theorem pr75707 : Prime 75707 := prime_tri (k := 275) (by decide) (by decide) (by decide +kernel)
theorem pr7 : Prime 7 := prime_tri (k := 2) (by decide) (by decide) (by decide +kernel)
theorem pr3 : Prime 3 := prime_tri (k := 1) (by decide) (by decide) (by decide +kernel)
theorem pr991 : Prime 991 := prime_tri (k := 31) (by decide) (by decide) (by decide +kernel)
theorem pr_5 : Prime 8574133 :=
  pk2 (q := 3) (s := 991) (m := 2858044) (j := 8652) (a := 2) (b := 2) (k := 24) pr3 pr991 (by decide +kernel) (by decide +kernel) (by decide +kernel) (by decide +kernel) (by decide +kernel) (by decide +kernel) (by decide +kernel) (by decide +kernel) (by decide +kernel) (by decide +kernel)
theorem pr_6 : Prime 1919519569386763 :=
  pk2 (q := 7) (s := 8574133) (m := 274217081340966) (j := 223873314) (a := 2) (b := 2) (k := 51) pr7 pr_5 (by decide +kernel) (by decide +kernel) (by decide +kernel) (by decide +kernel) (by decide +kernel) (by decide +kernel) (by decide +kernel) (by decide +kernel) (by decide +kernel) (by decide +kernel)
theorem pr_7 : Prime 75445702479781427272750846543864801 :=
  pk2 (q := 75707) (s := 1919519569386763) (m := 996548568557483816196003626400) (j := 39304471641247389600) (a := 2) (b := 2) (k := 116) pr75707 pr_6 (by decide +kernel) (by decide +kernel) (by decide +kernel) (by decide +kernel) (by decide +kernel) (by decide +kernel) (by decide +kernel) (by decide +kernel) (by decide +kernel) (by decide +kernel)
theorem pr_8 : Prime 74058212732561358302231226437062788676166966415465897661863160754340907 :=
  pk2 (q := 353) (s := 75445702479781427272750846543864801) (m := 209796636636151156663544550813209033076960244803019540118592523383402) (j := 981609426360740691344999861639072106) (a := 2) (b := 2) (k := 236) pr353 pr_7 (by decide +kernel) (by decide +kernel) (by decide +kernel) (by decide +kernel) (by decide +kernel) (by decide +kernel) (by decide +kernel) (by decide +kernel) (by decide +kernel) (by decide +kernel)
theorem pr_9 : Prime 57896044618658097711785492504343953926634992332820282019728792003956564819949 :=
  pk1 (q := 74058212732561358302231226437062788676166966415465897661863160754340907) (m := 781764) (a := 2) (k := 255) pr_8 (by decide +kernel) (by decide +kernel) (by decide +kernel) (by decide +kernel) (by decide +kernel) (by decide +kernel)
theorem prime_p25519 : Prime 57896044618658097711785492504343953926634992332820282019728792003956564819949 := pr_9
theorem pr531581 : Prime 531581 := prime_tri (k := 729) (by decide) (by decide) (by decide +kernel)
theorem pr1224481 : Prime 1224481 := prime_tri (k := 1106) (by decide) (by decide) (by decide +kernel)
theorem pr_12 : Prime 1257559732178653 :=
  pk2 (q := 531581) (s := 1224481) (m := 2365697292) (j := 1027014492) (a := 2) (b := 2) (k := 51) pr531581 pr1224481 (by decide +kernel) (by decide +kernel) (by decide +kernel) (by decide +kernel) (by decide +kernel) (by decide +kernel) (by decide +kernel) (by decide +kernel) (by decide +kernel) (by decide +kernel)
theorem pr_13 : Prime 4434155615661930479 :=
  pk1 (q := 1257559732178653) (m := 3526) (a := 2) (k := 62) pr_12 (by decide +kernel) (by decide +kernel) (by decide +kernel) (by decide +kernel) (by decide +kernel) (by decide +kernel)
theorem pr_14 : Prime 172054593956031949258510691 :=
  pk1 (q := 4434155615661930479) (m := 38802110) (a := 2) (k := 88) pr_13 (by decide +kernel) (by decide +kernel) (by decide +kernel) (by decide +kernel) (by decide +kernel) (by decide +kernel)
theorem pr_15 : Prime 19757330305831588566944191468367130476339 :=
  pk1 (q := 172054593956031949258510691) (m := 114831751082918) (a := 2) (k := 134) pr_14 (by decide +kernel) (by decide +kernel) (by decide +kernel) (by decide +kernel) (by decide +kernel) (by decide +kernel)
theorem pr_16 : Prime 276602624281642239937218680557139826668747 :=
  pk1 (q := 19757330305831588566944191468367130476339) (m := 14) (a := 2) (k := 138) pr_15 (by decide +kernel) (by decide +kernel) (by decide +kernel) (by decide +kernel) (by decide +kernel) (by decide +kernel)
theorem pr_17 : Prime 7237005577332262213973186563042994240857116359379907606001950938285454250989 :=
  pk1 (q := 276602624281642239937218680557139826668747) (m := 26163907866482859529727157400808004) (a := 2) (k := 253) pr_16 (by decide +kernel) (by decide +kernel) (by decide +kernel) (by decide +kernel) (by decide +kernel) (by decide +kernel)
theorem prime_l25519 : Prime 7237005577332262213973186563042994240857116359379907606001950938285454250989 := pr_17
end Go.Proofs.YtgclegdgngldoaaDoor.Fp
set_option linter.unusedVariables false
namespace Go.Proofs.YtgclegdgngldoaaDoor.Fp
def P : Nat := 57896044618658097711785492504343953926634992332820282019728792003956564819949
instance : NeZero P := ⟨by decide⟩
abbrev F := Fin P
theorem prP : Prime P := prime_p25519
theorem val_mul (a b : F) : (a * b).val = a.val * b.val % P := rfl
theorem val_pow (a : F) : ∀ n : Nat, (a ^ n).val = a.val ^ n % P
  | 0 => by
    have h : a ^ 0 = 1 := by grind
    rw [h, Nat.pow_zero]; decide +kernel
  | n + 1 => by
    have h : a ^ (n + 1) = a ^ n * a := by grind
    rw [h, val_mul, val_pow a n, Nat.pow_succ, Nat.mod_mul_mod]
theorem F.ne_zero {a : F} (h : a ≠ 0) : ¬ P ∣ a.val := by
  intro hd
  apply h
  have h1 : a.val = 0 := Nat.eq_zero_of_dvd_of_lt hd a.isLt
  exact Fin.ext h1
theorem mul_eq_zero {a b : F} (h : a * b = 0) : a = 0 ∨ b = 0 := by
  have h1 : a.val * b.val % P = 0 := by rw [← val_mul, h]; rfl
  rcases prP.dvd_mul (Nat.dvd_of_mod_eq_zero h1) with h2 | h2
  · exact .inl (Fin.ext (Nat.eq_zero_of_dvd_of_lt h2 a.isLt))
  · exact .inr (Fin.ext (Nat.eq_zero_of_dvd_of_lt h2 b.isLt))
theorem mul_ne {a b : F} (ha : a ≠ 0) (hb : b ≠ 0) : a * b ≠ 0 := fun h => (mul_eq_zero h).elim ha hb
theorem fermat {a : F} (h : a ≠ 0) : a ^ (P - 1) = 1 := by
  apply Fin.ext
  rw [val_pow, prP.fermat (F.ne_zero h)]
  decide +kernel
def inv (a : F) : F := a ^ (P - 2)
theorem mul_inv {a : F} (h : a ≠ 0) : a * inv a = 1 := by
  have e : P - 1 = (P - 2) + 1 := by decide +kernel
  have h1 := fermat h
  rw [e] at h1
  have h2 : a ^ (P - 2 + 1) = a ^ (P - 2) * a := by grind
  rw [h2] at h1
  unfold inv
  generalize a ^ (P - 2) = c at *
  grind
theorem two_ne : (2 : F) ≠ 0 := by decide +kernel
theorem cancel {a b c : F} (hc : c ≠ 0) (h : c * a = c * b) : a = b := by
  have : c * (a - b) = 0 := by grind
  rcases mul_eq_zero this with h1 | h1
  · exact absurd h1 hc
  · grind
/-- no square -/
def NS (D : F) : Prop := ∀ a b : F, a * a = D * (b * b) → b = 0
structure Pt (D : F) where
  x : F
  y : F
  on : x * x + y * y = 1 + D * x * x * y * y
section
variable {D : F}
theorem Pt.ext {p q : Pt D} (h1 : p.x = q.x) (h2 : p.y = q.y) : p = q := by
  cases p; cases q; simp at h1 h2; subst h1; subst h2; rfl
theorem complete (hD : NS D) {x1 y1 x2 y2 e : F} (h1 : x1 * x1 + y1 * y1 = 1 + D * x1 * x1 * y1 * y1) (h2 : x2 * x2 + y2 * y2 = 1 + D * x2 * x2 * y2 * y2) (he : e * e = 1) : 1 + e * (D * x1 * x2 * y1 * y2) ≠ 0 := by
  intro h
  have e1 : D * x1 * x2 * y1 * y2 = - e := by grind
  have k1 : (x1 - e * y1) * (x1 - e * y1) = D * ((x1 * y1 * (x2 + y2)) * (x1 * y1 * (x2 + y2))) := by grind
  have k2 : (x1 + e * y1) * (x1 + e * y1) = D * ((x1 * y1 * (x2 - y2)) * (x1 * y1 * (x2 - y2))) := by grind
  have z1 := hD _ _ k1
  have z2 := hD _ _ k2
  have n1 : x1 * y1 ≠ 0 := by intro hz; have : e = 0 := by grind
                              rw [this] at he; exact absurd he (by decide +kernel)
  rcases mul_eq_zero z1 with a | a
  · exact n1 a
  · rcases mul_eq_zero z2 with b | b
    · exact n1 b
    · have : 2 * x2 = 0 := by grind
      rcases mul_eq_zero this with c | c
      · exact two_ne c
      · have c2 : y2 = 0 := by grind
        have : (0 : F) = 1 := by grind
        exact absurd this (by decide +kernel)
theorem dp_ne (hD : NS D) (p q : Pt D) : 1 + D * p.x * q.x * p.y * q.y ≠ 0 := by
  have := complete hD (e := 1) p.on q.on (by decide +kernel)
  intro h; apply this; grind
theorem dm_ne (hD : NS D) (p q : Pt D) : 1 - D * p.x * q.x * p.y * q.y ≠ 0 := by
  have := complete hD (e := -1) p.on q.on (by decide +kernel)
  intro h; apply this; grind
theorem add_on {x1 y1 x2 y2 i j : F} (h1 : x1 * x1 + y1 * y1 = 1 + D * x1 * x1 * y1 * y1) (h2 : x2 * x2 + y2 * y2 = 1 + D * x2 * x2 * y2 * y2)
    (hi : (1 + D * x1 * x2 * y1 * y2) * i = 1) (hj : (1 - D * x1 * x2 * y1 * y2) * j = 1) :
    ((x1 * y2 + y1 * x2) * i) * ((x1 * y2 + y1 * x2) * i) + ((y1 * y2 - x1 * x2) * j) * ((y1 * y2 - x1 * x2) * j) = 1 + D * ((x1 * y2 + y1 * x2) * i) * ((x1 * y2 + y1 * x2) * i) * ((y1 * y2 - x1 * x2) * j) * ((y1 * y2 - x1 * x2) * j) := by
  have key : (x1 * y2 + y1 * x2) * (x1 * y2 + y1 * x2) * ((1 - D * x1 * x2 * y1 * y2) * (1 - D * x1 * x2 * y1 * y2)) + (y1 * y2 - x1 * x2) * (y1 * y2 - x1 * x2) * ((1 + D * x1 * x2 * y1 * y2) * (1 + D * x1 * x2 * y1 * y2)) =
      (1 + D * x1 * x2 * y1 * y2) * (1 + D * x1 * x2 * y1 * y2) * ((1 - D * x1 * x2 * y1 * y2) * (1 - D * x1 * x2 * y1 * y2)) + D * ((x1 * y2 + y1 * x2) * (x1 * y2 + y1 * x2)) * ((y1 * y2 - x1 * x2) * (y1 * y2 - x1 * x2)) := by grind
  generalize x1 * y2 + y1 * x2 = a at *
  generalize y1 * y2 - x1 * x2 = b at *
  generalize 1 + D * x1 * x2 * y1 * y2 = p at *
  generalize 1 - D * x1 * x2 * y1 * y2 = q at *
  have e : (i * i) * (j * j) * (a * a * (q * q) + b * b * (p * p)) = (i * i) * (j * j) * (p * p * (q * q) + D * (a * a) * (b * b)) := by rw [key]
  clear key h1 h2
  grind
def Pt.add (hD : NS D) (p q : Pt D) : Pt D :=
  ⟨(p.x * q.y + p.y * q.x) * inv (1 + D * p.x * q.x * p.y * q.y), (p.y * q.y - p.x * q.x) * inv (1 - D * p.x * q.x * p.y * q.y),
    add_on p.on q.on (mul_inv (dp_ne hD p q)) (mul_inv (dm_ne hD p q))⟩
def Pt.O : Pt D := ⟨0, 1, by grind⟩
def Pt.neg (p : Pt D) : Pt D := ⟨-p.x, p.y, by have := p.on; grind⟩
variable (hD : NS D)
theorem add_x (p q : Pt D) : (1 + D * p.x * q.x * p.y * q.y) * (p.add hD q).x = p.x * q.y + p.y * q.x := by
  have h := mul_inv (dp_ne hD p q)
  show _ * ((p.x * q.y + p.y * q.x) * inv _) = _
  generalize inv (1 + D * p.x * q.x * p.y * q.y) = i at *
  grind
theorem add_y (p q : Pt D) : (1 - D * p.x * q.x * p.y * q.y) * (p.add hD q).y = p.y * q.y - p.x * q.x := by
  have h := mul_inv (dm_ne hD p q)
  show _ * ((p.y * q.y - p.x * q.x) * inv _) = _
  generalize inv (1 - D * p.x * q.x * p.y * q.y) = i at *
  grind
theorem add_comm (p q : Pt D) : p.add hD q = q.add hD p := by
  have a1 := add_x hD p q; have a2 := add_x hD q p; have b1 := add_y hD p q; have b2 := add_y hD q p
  have c1 := dp_ne hD p q; have c2 := dm_ne hD p q
  refine Pt.ext (cancel c1 ?_) (cancel c2 ?_)
  · rw [a1]
    have : 1 + D * p.x * q.x * p.y * q.y = 1 + D * q.x * p.x * q.y * p.y := by grind
    rw [this, a2]; grind
  · rw [b1]
    have : 1 - D * p.x * q.x * p.y * q.y = 1 - D * q.x * p.x * q.y * p.y := by grind
    rw [this, b2]; grind
theorem add_zero (p : Pt D) : p.add hD .O = p := by
  have a1 := add_x hD p .O; have b1 := add_y hD p .O
  refine Pt.ext ?_ ?_
  · have e1 : (Pt.O : Pt D).x = 0 := rfl
    have e2 : (Pt.O : Pt D).y = 1 := rfl
    rw [e1, e2] at a1; grind
  · have e1 : (Pt.O : Pt D).x = 0 := rfl
    have e2 : (Pt.O : Pt D).y = 1 := rfl
    rw [e1, e2] at b1; grind
theorem zero_add (p : Pt D) : Pt.O.add hD p = p := by rw [add_comm, add_zero]
theorem assocx (x1 y1 x2 y2 x3 y3 : F) (h1 : x1*x1+y1*y1 = 1 + D*x1*x1*y1*y1) (h2 : x2*x2+y2*y2 = 1 + D*x2*x2*y2*y2) (h3 : x3*x3+y3*y3 = 1 + D*x3*x3*y3*y3) :
  ((x1*y2+y1*x2)*(1-D*x1*x2*y1*y2)*y3 + (y1*y2-x1*x2)*(1+D*x1*x2*y1*y2)*x3)*((1+D*x2*x3*y2*y3)*(1-D*x2*x3*y2*y3)+D*x1*y1*(x2*y3+y2*x3)*(y2*y3-x2*x3)) =
  (x1*(y2*y3-x2*x3)*(1+D*x2*x3*y2*y3)+y1*(x2*y3+y2*x3)*(1-D*x2*x3*y2*y3))*((1+D*x1*x2*y1*y2)*(1-D*x1*x2*y1*y2)+D*x3*y3*(x1*y2+y1*x2)*(y1*y2-x1*x2)) := by
  grind
theorem assocy (x1 y1 x2 y2 x3 y3 : F) (h1 : x1*x1+y1*y1 = 1 + D*x1*x1*y1*y1) (h2 : x2*x2+y2*y2 = 1 + D*x2*x2*y2*y2) (h3 : x3*x3+y3*y3 = 1 + D*x3*x3*y3*y3) :
  ((y1*y2-x1*x2)*(1+D*x1*x2*y1*y2)*y3 - (x1*y2+y1*x2)*(1-D*x1*x2*y1*y2)*x3)*((1+D*x2*x3*y2*y3)*(1-D*x2*x3*y2*y3)-D*x1*y1*(x2*y3+y2*x3)*(y2*y3-x2*x3)) =
  (y1*(y2*y3-x2*x3)*(1+D*x2*x3*y2*y3)-x1*(x2*y3+y2*x3)*(1-D*x2*x3*y2*y3))*((1+D*x1*x2*y1*y2)*(1-D*x1*x2*y1*y2)-D*x3*y3*(x1*y2+y1*x2)*(y1*y2-x1*x2)) := by
  grind
theorem add_assoc (p q r : Pt D) : (p.add hD q).add hD r = p.add hD (q.add hD r) := by
  have hx := assocx (D := D) p.x p.y q.x q.y r.x r.y p.on q.on r.on
  have hy := assocy (D := D) p.x p.y q.x q.y r.x r.y p.on q.on r.on
  have a1 := add_x hD p q; have b1 := add_y hD p q; have a2 := add_x hD q r; have b2 := add_y hD q r
  have a3 := add_x hD (p.add hD q) r; have b3 := add_y hD (p.add hD q) r
  have a4 := add_x hD p (q.add hD r); have b4 := add_y hD p (q.add hD r)
  have n1 := dp_ne hD p q; have n2 := dm_ne hD p q; have n3 := dp_ne hD q r; have n4 := dm_ne hD q r
  have n5 := dp_ne hD (p.add hD q) r; have n6 := dm_ne hD (p.add hD q) r
  have n7 := dp_ne hD p (q.add hD r); have n8 := dm_ne hD p (q.add hD r)
  refine Pt.ext ?_ ?_
  · refine cancel (mul_ne (mul_ne (mul_ne n1 n2) (mul_ne n3 n4)) (mul_ne n5 n7)) ?_
    generalize ((p.add hD q).add hD r).x = X at *
    generalize (p.add hD (q.add hD r)).x = X' at *
    generalize (p.add hD q).x = u at *
    generalize (p.add hD q).y = v at *
    generalize (q.add hD r).x = s at *
    generalize (q.add hD r).y = t at *
    clear b3 b4 n1 n2 n3 n4 n5 n6 n7 n8 hy
    obtain ⟨x1, y1, o1⟩ := p; obtain ⟨x2, y2, o2⟩ := q; obtain ⟨x3, y3, o3⟩ := r
    simp only at *
    clear o1 o2 o3
    have k1 : (1 + D * x1 * x2 * y1 * y2) * (1 - D * x1 * x2 * y1 * y2) * ((1 + D * u * x3 * v * y3)) = (1+D*x1*x2*y1*y2)*(1-D*x1*x2*y1*y2)+D*x3*y3*(x1*y2+y1*x2)*(y1*y2-x1*x2) := by rw [← a1, ← b1]; grind
    have k2 : (1 + D * x2 * x3 * y2 * y3) * (1 - D * x2 * x3 * y2 * y3) * ((1 + D * x1 * s * y1 * t)) = (1+D*x2*x3*y2*y3)*(1-D*x2*x3*y2*y3)+D*x1*y1*(x2*y3+y2*x3)*(y2*y3-x2*x3) := by rw [← a2, ← b2]; grind
    have k3 : (1 + D * x1 * x2 * y1 * y2) * (1 - D * x1 * x2 * y1 * y2) * (u * y3 + v * x3) = (x1*y2+y1*x2)*(1-D*x1*x2*y1*y2)*y3 + (y1*y2-x1*x2)*(1+D*x1*x2*y1*y2)*x3 := by rw [← a1, ← b1]; grind
    have k4 : (1 + D * x2 * x3 * y2 * y3) * (1 - D * x2 * x3 * y2 * y3) * (x1 * t + y1 * s) = x1*(y2*y3-x2*x3)*(1+D*x2*x3*y2*y3)+y1*(x2*y3+y2*x3)*(1-D*x2*x3*y2*y3) := by rw [← a2, ← b2]; grind
    rw [← k1, ← k2, ← k3, ← k4] at hx
    clear k1 k2 k3 k4 a1 b1 a2 b2
    generalize 1 + D * x1 * x2 * y1 * y2 = A at *
    generalize 1 - D * x1 * x2 * y1 * y2 = B at *
    generalize 1 + D * x2 * x3 * y2 * y3 = C at *
    generalize 1 - D * x2 * x3 * y2 * y3 = E at *
    generalize 1 + D * u * x3 * v * y3 = G at *
    generalize 1 + D * x1 * s * y1 * t = H at *
    rw [← a3, ← a4] at hx
    grind
  · refine cancel (mul_ne (mul_ne (mul_ne n1 n2) (mul_ne n3 n4)) (mul_ne n6 n8)) ?_
    generalize ((p.add hD q).add hD r).y = X at *
    generalize (p.add hD (q.add hD r)).y = X' at *
    generalize (p.add hD q).x = u at *
    generalize (p.add hD q).y = v at *
    generalize (q.add hD r).x = s at *
    generalize (q.add hD r).y = t at *
    clear a3 a4 n1 n2 n3 n4 n5 n6 n7 n8 hx
    obtain ⟨x1, y1, o1⟩ := p; obtain ⟨x2, y2, o2⟩ := q; obtain ⟨x3, y3, o3⟩ := r
    simp only at *
    clear o1 o2 o3
    have k1 : (1 + D * x1 * x2 * y1 * y2) * (1 - D * x1 * x2 * y1 * y2) * ((1 - D * u * x3 * v * y3)) = (1+D*x1*x2*y1*y2)*(1-D*x1*x2*y1*y2)-D*x3*y3*(x1*y2+y1*x2)*(y1*y2-x1*x2) := by rw [← a1, ← b1]; grind
    have k2 : (1 + D * x2 * x3 * y2 * y3) * (1 - D * x2 * x3 * y2 * y3) * ((1 - D * x1 * s * y1 * t)) = (1+D*x2*x3*y2*y3)*(1-D*x2*x3*y2*y3)-D*x1*y1*(x2*y3+y2*x3)*(y2*y3-x2*x3) := by rw [← a2, ← b2]; grind
    have k3 : (1 + D * x1 * x2 * y1 * y2) * (1 - D * x1 * x2 * y1 * y2) * (v * y3 - u * x3) = (y1*y2-x1*x2)*(1+D*x1*x2*y1*y2)*y3 - (x1*y2+y1*x2)*(1-D*x1*x2*y1*y2)*x3 := by rw [← a1, ← b1]; grind
    have k4 : (1 + D * x2 * x3 * y2 * y3) * (1 - D * x2 * x3 * y2 * y3) * (y1 * t - x1 * s) = y1*(y2*y3-x2*x3)*(1+D*x2*x3*y2*y3)-x1*(x2*y3+y2*x3)*(1-D*x2*x3*y2*y3) := by rw [← a2, ← b2]; grind
    rw [← k1, ← k2, ← k3, ← k4] at hy
    clear k1 k2 k3 k4 a1 b1 a2 b2
    generalize 1 + D * x1 * x2 * y1 * y2 = A at *
    generalize 1 - D * x1 * x2 * y1 * y2 = B at *
    generalize 1 + D * x2 * x3 * y2 * y3 = C at *
    generalize 1 - D * x2 * x3 * y2 * y3 = E at *
    generalize 1 - D * u * x3 * v * y3 = G at *
    generalize 1 - D * x1 * s * y1 * t = H at *
    rw [← b3, ← b4] at hy
    grind
end
end Go.Proofs.YtgclegdgngldoaaDoor.Fp
