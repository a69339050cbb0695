/-
  Primes, Fermat's little theorem and Pocklington's test, in plain Lean; own work.
-/
set_option linter.unusedVariables false
namespace Go.Proofs.Ytgneclfnfnpmkaa.Fp
def Prime (p : Nat) : Prop := 2 ≤ p ∧ ∀ d, d ∣ p → d = 1 ∨ d = p

theorem Prime.pos {p : Nat} (h : Prime p) : 0 < p := by have := h.1; omega
theorem Prime.coprime {p a : Nat} (h : Prime p) (ha : ¬ p ∣ a) : Nat.gcd p a = 1 := by
  rcases h.2 _ (Nat.gcd_dvd_left p a) with e | e
  · exact e
  · exact absurd (e ▸ Nat.gcd_dvd_right p a) ha
theorem Prime.dvd_mul {p a b : Nat} (h : Prime p) (hd : p ∣ a * b) : p ∣ a ∨ p ∣ b := by
  by_cases ha : p ∣ a
  · exact .inl ha
  · exact .inr (Nat.Coprime.dvd_of_dvd_mul_left (h.coprime ha) hd)
/-- choose -/
def ch : Nat → Nat → Nat
  | _, 0 => 1
  | 0, _ + 1 => 0
  | n + 1, k + 1 => ch n k + ch n (k + 1)
theorem ch_gt : ∀ (n k : Nat), n < k → ch n k = 0
  | 0, 0, h => by omega
  | 0, k + 1, h => rfl
  | n + 1, 0, h => by omega
  | n + 1, k + 1, h => by simp [ch, ch_gt n k (by omega), ch_gt n (k + 1) (by omega)]
theorem ch_self : ∀ n, ch n n = 1
  | 0 => rfl
  | n + 1 => by simp [ch, ch_self n, ch_gt n (n + 1) (by omega)]
theorem ch_zero (n : Nat) : ch n 0 = 1 := by cases n <;> rfl
theorem ch_mul : ∀ (n k : Nat), (k + 1) * ch (n + 1) (k + 1) = (n + 1) * ch n k
  | 0, 0 => rfl
  | 0, k + 1 => by simp [ch]
  | n + 1, 0 => by
    have := ch_mul n 0
    simp [ch, ch_zero] at this ⊢
    omega
  | n + 1, k + 1 => by
    have h1 := ch_mul n k
    have h2 := ch_mul n (k + 1)
    have e1 : ch (n + 1 + 1) (k + 1 + 1) = ch (n + 1) (k + 1) + ch (n + 1) (k + 1 + 1) := rfl
    have e2 : ch (n + 1) (k + 1) = ch n k + ch n (k + 1) := rfl
    rw [e1]
    have e3 : (k + 1 + 1) * ch (n + 1) (k + 1) = (n + 1) * ch n k + ch (n + 1) (k + 1) := by rw [Nat.succ_mul, h1]
    rw [Nat.mul_add, e3, h2, e2]
    simp only [Nat.mul_add, Nat.add_mul, Nat.one_mul]
    omega
theorem Prime.dvd_ch {p : Nat} (h : Prime p) (k : Nat) (h0 : 0 < k) (hk : k < p) : p ∣ ch p k := by
  obtain ⟨n, rfl⟩ : ∃ n, p = n + 1 := ⟨p - 1, by have := h.pos; omega⟩
  obtain ⟨j, rfl⟩ : ∃ j, k = j + 1 := ⟨k - 1, by omega⟩
  have e := ch_mul n j
  rcases h.dvd_mul (show n + 1 ∣ (j + 1) * ch (n + 1) (j + 1) by rw [e]; exact Nat.dvd_mul_right _ _) with hd | hd
  · exact absurd (Nat.le_of_dvd (by omega) hd) (by omega)
  · exact hd
/-- the first m members of (a + 1)^n -/
def S (a n : Nat) : Nat → Nat
  | 0 => 0
  | m + 1 => S a n m + ch n m * a ^ m
theorem S_succ (a n : Nat) : ∀ m, S a (n + 1) (m + 1) = S a n (m + 1) + a * S a n m
  | 0 => by simp [S, ch_zero]
  | m + 1 => by
    have ih := S_succ a n m
    show S a (n + 1) (m + 1) + ch (n + 1) (m + 1) * a ^ (m + 1) = (S a n (m + 1) + ch n (m + 1) * a ^ (m + 1)) + a * (S a n m + ch n m * a ^ m)
    rw [ih]
    have e : ch (n + 1) (m + 1) = ch n m + ch n (m + 1) := rfl
    rw [e, Nat.add_mul, Nat.mul_add, Nat.pow_succ]
    have : a * (ch n m * a ^ m) = ch n m * (a ^ m * a) := by rw [Nat.mul_left_comm, Nat.mul_comm a (a ^ m)]
    omega
theorem binomial (a : Nat) : ∀ n, (a + 1) ^ n = S a n (n + 1)
  | 0 => by simp [S, ch]
  | n + 1 => by
    rw [S_succ, Nat.pow_succ, binomial a n]
    have e : S a n (n + 1 + 1) = S a n (n + 1) + ch n (n + 1) * a ^ (n + 1) := rfl
    rw [e, ch_gt n (n + 1) (by omega), Nat.zero_mul, Nat.add_zero, Nat.mul_add, Nat.mul_one, Nat.mul_comm a]
    omega
theorem Prime.S_mod {p : Nat} (h : Prime p) (a : Nat) : ∀ m, m < p → S a p (m + 1) % p = 1
  | 0, _ => by simp [S, ch_zero]; exact Nat.mod_eq_of_lt h.1
  | m + 1, hm => by
    show (S a p (m + 1) + ch p (m + 1) * a ^ (m + 1)) % p = 1
    obtain ⟨c, hc⟩ := h.dvd_ch (m + 1) (by omega) hm
    rw [hc, Nat.mul_assoc, Nat.add_mul_mod_self_left, h.S_mod a m (by omega)]
theorem Prime.add_one_pow {p : Nat} (h : Prime p) (a : Nat) : (a + 1) ^ p % p = (a ^ p + 1) % p := by
  obtain ⟨n, hn⟩ : ∃ n, p = n + 1 := ⟨p - 1, by have := h.pos; omega⟩
  rw [binomial]
  show (S a p p + ch p p * a ^ p) % p = _
  rw [ch_self, Nat.one_mul, Nat.add_comm (S a p p)]
  have : S a p p % p = 1 % p := by
    have := h.S_mod a n (by omega)
    rw [← hn] at this
    rw [this, Nat.mod_eq_of_lt h.1]
  rw [Nat.add_mod, this, ← Nat.add_mod]
theorem Prime.pow_self {p : Nat} (h : Prime p) : ∀ a, a ^ p % p = a % p
  | 0 => by rw [Nat.zero_pow h.pos]
  | a + 1 => by rw [h.add_one_pow, Nat.add_mod, h.pow_self a, ← Nat.add_mod]
theorem Prime.cancel {p a b c : Nat} (h : Prime p) (hc : ¬ p ∣ c) (e : c * a % p = c * b % p) : a % p = b % p := by
  have key : ∀ a b : Nat, a ≤ b → c * a % p = c * b % p → a % p = b % p := by
    intro a b hle e
    have hd : p ∣ c * b - c * a := Nat.dvd_of_mod_eq_zero (Nat.sub_mod_eq_zero_of_mod_eq e.symm)
    rw [← Nat.mul_sub] at hd
    rcases h.dvd_mul hd with hd | hd
    · exact absurd hd hc
    · obtain ⟨k, hk⟩ := hd
      have : b = a + p * k := by omega
      rw [this, Nat.add_mul_mod_self_left]
  rcases Nat.le_total a b with hle | hle
  · exact key a b hle e
  · exact (key b a hle e.symm).symm
theorem Prime.fermat {p a : Nat} (h : Prime p) (ha : ¬ p ∣ a) : a ^ (p - 1) % p = 1 := by
  have e := h.pow_self a
  obtain ⟨n, hn⟩ : ∃ n, p = n + 1 := ⟨p - 1, by have := h.pos; omega⟩
  have e2 : a * a ^ (p - 1) % p = a * 1 % p := by
    rw [Nat.mul_one, ← e, Nat.mul_comm, ← Nat.pow_succ]; congr 2; omega
  have := h.cancel ha e2
  rw [this, Nat.mod_eq_of_lt h.1]
/-- powers that are one -/
theorem pow_gcd {b n : Nat} (hn : 1 < n) : ∀ x y : Nat, b ^ x % n = 1 → b ^ y % n = 1 → b ^ (Nat.gcd x y) % n = 1 := by
  intro x y
  induction x, y using Nat.gcd.induction with
  | H0 y => intro _ h; simpa using h
  | H1 x y hx ih =>
    intro h1 h2
    rw [Nat.gcd_rec]
    refine ih ?_ h1
    have e : b ^ y = (b ^ x) ^ (y / x) * b ^ (y % x) := by rw [← Nat.pow_mul, ← Nat.pow_add, Nat.div_add_mod]
    rw [e, Nat.mul_mod, Nat.pow_mod, h1, Nat.one_pow, Nat.mod_eq_of_lt hn, Nat.one_mul, Nat.mod_mod] at h2
    exact h2
/-- the least divisor that is not one is a prime -/
theorem exists_prime_dvd : ∀ n : Nat, 2 ≤ n → ∃ r, Prime r ∧ r ∣ n := by
  intro n
  induction n using Nat.strongRecOn with
  | _ n ih =>
    intro h
    by_cases hp : Prime n
    · exact ⟨n, hp, Nat.dvd_refl _⟩
    · have : ∃ d, d ∣ n ∧ d ≠ 1 ∧ d ≠ n := by
        apply Classical.byContradiction
        intro hno
        exact hp ⟨h, fun d hd => by
          apply Classical.byContradiction
          intro h2
          exact hno ⟨d, hd, fun e => h2 (.inl e), fun e => h2 (.inr e)⟩⟩
      obtain ⟨d, hd, h1, h2⟩ := this
      have hle := Nat.le_of_dvd (by omega) hd
      have h0 : d ≠ 0 := by rintro rfl; rw [Nat.zero_dvd] at hd; omega
      obtain ⟨r, hr, hrd⟩ := ih d (by omega) (by omega)
      exact ⟨r, hr, Nat.dvd_trans hrd hd⟩
theorem exists_small {n : Nat} (h : 2 ≤ n) (hp : ¬ Prime n) : ∃ r, Prime r ∧ r ∣ n ∧ r * r ≤ n := by
  have : ∃ d, d ∣ n ∧ d ≠ 1 ∧ d ≠ n := by
    apply Classical.byContradiction
    intro hno
    exact hp ⟨h, fun d hd => by
      apply Classical.byContradiction
      intro h2
      exact hno ⟨d, hd, fun e => h2 (.inl e), fun e => h2 (.inr e)⟩⟩
  obtain ⟨d, ⟨e, he⟩, h1, h2⟩ := this
  have hd0 : d ≠ 0 := by rintro rfl; simp at he; omega
  have he0 : e ≠ 0 := by rintro rfl; simp at he; omega
  have he1 : e ≠ 1 := by rintro rfl; simp at he; omega
  rcases Nat.le_total d e with hle | hle
  · obtain ⟨r, hr, hrd⟩ := exists_prime_dvd d (by omega)
    refine ⟨r, hr, Nat.dvd_trans hrd ⟨e, he⟩, ?_⟩
    have := Nat.le_of_dvd (by omega) hrd
    rw [he]; exact Nat.mul_le_mul this (by omega)
  · obtain ⟨r, hr, hrd⟩ := exists_prime_dvd e (by omega)
    refine ⟨r, hr, Nat.dvd_trans hrd ⟨d, by rw [he, Nat.mul_comm]⟩, ?_⟩
    have := Nat.le_of_dvd (by omega) hrd
    rw [he]; exact Nat.mul_le_mul (by omega) this
/-- powers, by squares -/
def pm (m b : Nat) : Nat → Nat → Nat
  | 0, _ => 1 % m
  | k + 1, e => if e % 2 = 1 then pm m b k (e / 2) * pm m b k (e / 2) % m * b % m else pm m b k (e / 2) * pm m b k (e / 2) % m
def sqm (m b : Nat) (o : Bool) (h : Nat) : Nat := cond o (h * h % m * b % m) (h * h % m)
/-- .. in one pass -/
def pw (m b : Nat) : Nat → Nat → Nat
  | 0, _ => 1 % m
  | k + 1, e => sqm m b (Nat.beq (e % 2) 1) (pw m b k (e / 2))
theorem pw_eq (m b : Nat) : ∀ k e, e < 2 ^ k → pw m b k e = b ^ e % m
  | 0, e, h => by
    have : e = 0 := by simpa using h
    subst this; rfl
  | k + 1, e, h => by
    have ih := pw_eq m b k (e / 2) (by rw [Nat.pow_succ] at h; omega)
    unfold pw sqm
    rw [ih]
    have e2 : e = 2 * (e / 2) + e % 2 := by omega
    rcases Nat.mod_two_eq_zero_or_one e with h0 | h0
    · have hb : Nat.beq (e % 2) 1 = false := by rw [h0]; rfl
      rw [hb]
      show _ = _
      conv => rhs; rw [e2, h0, Nat.add_zero, Nat.mul_comm, Nat.pow_mul, Nat.pow_two]
      simp [Nat.mul_mod]
    · have hb : Nat.beq (e % 2) 1 = true := by rw [h0]; rfl
      rw [hb]
      show _ = _
      conv => rhs; rw [e2, h0, Nat.pow_succ, Nat.mul_comm 2, Nat.pow_mul, Nat.pow_two]
      simp [Nat.mul_mod]
/-- one factor of Pocklington's test -/
theorem pock_dvd {n q m a r : Nat} (hq : Prime q) (hn : n - 1 = q * m) (h1 : a ^ (n - 1) % n = 1) (hg : Nat.gcd (a ^ m % n + (n - 1)) n = 1) (hn1 : 1 < n) (hr : Prime r) (hrn : r ∣ n) : q ∣ r - 1 := by
  have hr1 : 1 < r := hr.1
  obtain ⟨c, hc⟩ := hrn
  have hmod : ∀ x, x % n % r = x % r := fun x => Nat.mod_mod_of_dvd x ⟨c, hc⟩
  have e1 : (a ^ m) ^ q % r = 1 := by
    rw [← Nat.pow_mul, Nat.mul_comm m q, ← hn, ← hmod, h1, Nat.mod_eq_of_lt hr1]
  have hra : ¬ r ∣ a ^ m := by
    intro hd
    have : (a ^ m) ^ q % r = 0 := by
      have : r ∣ (a ^ m) ^ q := Nat.dvd_trans hd (by obtain ⟨j, hj⟩ : ∃ j, q = j + 1 := ⟨q - 1, by have := hq.pos; omega⟩; rw [hj, Nat.pow_succ]; exact Nat.dvd_mul_left _ _)
      exact Nat.mod_eq_zero_of_dvd this
    omega
  have e2 := hr.fermat hra
  apply Classical.byContradiction
  intro hnd
  have hg1 := hq.coprime hnd
  have e3 := pow_gcd hr1 q (r - 1) e1 e2
  rw [hg1, Nat.pow_one] at e3
  have : r ∣ Nat.gcd (a ^ m % n + (n - 1)) n := by
    refine Nat.dvd_gcd ?_ ⟨c, hc⟩
    apply Nat.dvd_of_mod_eq_zero
    rw [Nat.add_mod, hmod, e3]
    have hz : (1 + (n - 1)) % r = 0 := by
      have : 1 + (n - 1) = r * c := by omega
      rw [this]; exact Nat.mul_mod_right _ _
    rw [Nat.add_mod] at hz
    rwa [Nat.mod_eq_of_lt hr1] at hz
  rw [hg] at this
  have := Nat.le_of_dvd (by omega) this
  omega
theorem pock1 {n q m a : Nat} (hq : Prime q) (hn : n - 1 = q * m) (h1 : a ^ (n - 1) % n = 1) (hg : Nat.gcd (a ^ m % n + (n - 1)) n = 1) (hn1 : 1 < n) (hs : n < (q + 1) * (q + 1)) : Prime n := by
  apply Classical.byContradiction
  intro hp
  obtain ⟨r, hr, hrn, hrr⟩ := exists_small (by omega) hp
  have hd := pock_dvd hq hn h1 hg hn1 hr hrn
  have := Nat.le_of_dvd (by have := hr.1; omega) hd
  have h2 : q + 1 ≤ r := by have := hr.1; omega
  have := Nat.mul_le_mul h2 h2
  omega
theorem pock2 {n q s m k a b : Nat} (hq : Prime q) (hs' : Prime s) (hqs : q ≠ s) (hn : n - 1 = q * m) (hn' : n - 1 = s * k) (h1 : a ^ (n - 1) % n = 1) (hg : Nat.gcd (a ^ m % n + (n - 1)) n = 1)
    (h1' : b ^ (n - 1) % n = 1) (hg' : Nat.gcd (b ^ k % n + (n - 1)) n = 1) (hn1 : 1 < n) (hs : n < (q * s + 1) * (q * s + 1)) : Prime n := by
  apply Classical.byContradiction
  intro hp
  obtain ⟨r, hr, hrn, hrr⟩ := exists_small (by omega) hp
  have hd := pock_dvd hq hn h1 hg hn1 hr hrn
  have hd' := pock_dvd hs' hn' h1' hg' hn1 hr hrn
  have hc : Nat.Coprime q s := hq.coprime (fun h => by
    rcases hs'.2 q h with e | e
    · have := hq.1; omega
    · exact hqs e)
  have hd2 := Nat.Coprime.mul_dvd_of_dvd_of_dvd hc hd hd'
  have := Nat.le_of_dvd (by have := hr.1; omega) hd2
  have h2 : q * s + 1 ≤ r := by have := hr.1; omega
  have := Nat.mul_le_mul h2 h2
  omega
/-- trial division -/
def tri (n : Nat) : Nat → Bool
  | 0 => true
  | k + 1 => (n % (k + 2) != 0) && tri n k
theorem tri_spec (n : Nat) : ∀ k, tri n k = true → ∀ d, 2 ≤ d → d < k + 2 → ¬ d ∣ n
  | 0, _, d, h1, h2 => by omega
  | k + 1, h, d, h1, h2 => by
    simp only [tri, Bool.and_eq_true, bne_iff_ne] at h
    by_cases e : d = k + 2
    · subst e; intro hd; exact h.1 (Nat.mod_eq_zero_of_dvd hd)
    · exact tri_spec n k h.2 d h1 (by omega)
theorem prime_tri {n k : Nat} (h2 : 2 ≤ n) (hk : n < (k + 2) * (k + 2)) (h : tri n k = true) : Prime n := by
  apply Classical.byContradiction
  intro hp
  obtain ⟨r, hr, hrn, hrr⟩ := exists_small h2 hp
  refine tri_spec n k h r hr.1 ?_ hrn
  apply Classical.byContradiction
  intro hge
  have := Nat.mul_le_mul (show k + 2 ≤ r by omega) (show k + 2 ≤ r by omega)
  omega
theorem pk1 {n q m a k : Nat} (hq : Prime q) (hn : n - 1 = q * m) (hk : n - 1 < 2 ^ k) (h1 : pw n a k (n - 1) = 1) (hg : Nat.gcd (pw n a k m + (n - 1)) n = 1) (hn1 : 1 < n) (hs : n < (q + 1) * (q + 1)) : Prime n := by
  have hm : m < 2 ^ k := by
    have := Nat.le_mul_of_pos_left m hq.pos
    omega
  rw [pw_eq _ _ _ _ hk] at h1
  rw [pw_eq _ _ _ _ hm] at hg
  exact pock1 hq hn h1 hg hn1 hs
theorem pk2 {n q s m j a b k : Nat} (hq : Prime q) (hs' : Prime s) (hqs : q ≠ s) (hn : n - 1 = q * m) (hn' : n - 1 = s * j) (hk : n - 1 < 2 ^ k) (h1 : pw n a k (n - 1) = 1) (hg : Nat.gcd (pw n a k m + (n - 1)) n = 1)
    (h1' : pw n b k (n - 1) = 1) (hg' : Nat.gcd (pw n b k j + (n - 1)) n = 1) (hn1 : 1 < n) (hs : n < (q * s + 1) * (q * s + 1)) : Prime n := by
  have hm : m < 2 ^ k := by
    have := Nat.le_mul_of_pos_left m hq.pos
    omega
  have hj : j < 2 ^ k := by
    have := Nat.le_mul_of_pos_left j hs'.pos
    omega
  rw [pw_eq _ _ _ _ hk] at h1 h1'
  rw [pw_eq _ _ _ _ hm] at hg
  rw [pw_eq _ _ _ _ hj] at hg'
  exact pock2 hq hs' hqs hn hn' h1 hg h1' hg' hn1 hs
theorem pr353 : Prime 353 := prime_tri (k := 18) (by decide) (by decide) (by decide +kernel)
theorem pr75707 : Prime 75707 := prime_tri (k := 275) (by decide) (by decide) (by decide +kernel)
theorem pr7 : Prime 7 := prime_tri (k := 2) (by decide) (by decide) (by decide +kernel)
theorem pr3 : Prime 3 := prime_tri (k := 1) (by decide) (by decide) (by decide +kernel)
theorem pr991 : Prime 991 := prime_tri (k := 31) (by decide) (by decide) (by decide +kernel)
theorem pr_5 : Prime 8574133 :=
  pk2 (q := 3) (s := 991) (m := 2858044) (j := 8652) (a := 2) (b := 2) (k := 24) pr3 pr991 (by decide +kernel) (by decide +kernel) (by decide +kernel) (by decide +kernel) (by decide +kernel) (by decide +kernel) (by decide +kernel) (by decide +kernel) (by decide +kernel) (by decide +kernel)
theorem pr_6 : Prime 1919519569386763 :=
  pk2 (q := 7) (s := 8574133) (m := 274217081340966) (j := 223873314) (a := 2) (b := 2) (k := 51) pr7 pr_5 (by decide +kernel) (by decide +kernel) (by decide +kernel) (by decide +kernel) (by decide +kernel) (by decide +kernel) (by decide +kernel) (by decide +kernel) (by decide +kernel) (by decide +kernel)
theorem pr_7 : Prime 75445702479781427272750846543864801 :=
  pk2 (q := 75707) (s := 1919519569386763) (m := 996548568557483816196003626400) (j := 39304471641247389600) (a := 2) (b := 2) (k := 116) pr75707 pr_6 (by decide +kernel) (by decide +kernel) (by decide +kernel) (by decide +kernel) (by decide +kernel) (by decide +kernel) (by decide +kernel) (by decide +kernel) (by decide +kernel) (by decide +kernel)
theorem pr_8 : Prime 74058212732561358302231226437062788676166966415465897661863160754340907 :=
  pk2 (q := 353) (s := 75445702479781427272750846543864801) (m := 209796636636151156663544550813209033076960244803019540118592523383402) (j := 981609426360740691344999861639072106) (a := 2) (b := 2) (k := 236) pr353 pr_7 (by decide +kernel) (by decide +kernel) (by decide +kernel) (by decide +kernel) (by decide +kernel) (by decide +kernel) (by decide +kernel) (by decide +kernel) (by decide +kernel) (by decide +kernel)
theorem pr_9 : Prime 57896044618658097711785492504343953926634992332820282019728792003956564819949 :=
  pk1 (q := 74058212732561358302231226437062788676166966415465897661863160754340907) (m := 781764) (a := 2) (k := 255) pr_8 (by decide +kernel) (by decide +kernel) (by decide +kernel) (by decide +kernel) (by decide +kernel) (by decide +kernel)
theorem prime_p25519 : Prime 57896044618658097711785492504343953926634992332820282019728792003956564819949 := pr_9
theorem pr531581 : Prime 531581 := prime_tri (k := 729) (by decide) (by decide) (by decide +kernel)
theorem pr1224481 : Prime 1224481 := prime_tri (k := 1106) (by decide) (by decide) (by decide +kernel)
theorem pr_12 : Prime 1257559732178653 :=
  pk2 (q := 531581) (s := 1224481) (m := 2365697292) (j := 1027014492) (a := 2) (b := 2) (k := 51) pr531581 pr1224481 (by decide +kernel) (by decide +kernel) (by decide +kernel) (by decide +kernel) (by decide +kernel) (by decide +kernel) (by decide +kernel) (by decide +kernel) (by decide +kernel) (by decide +kernel)
theorem pr_13 : Prime 4434155615661930479 :=
  pk1 (q := 1257559732178653) (m := 3526) (a := 2) (k := 62) pr_12 (by decide +kernel) (by decide +kernel) (by decide +kernel) (by decide +kernel) (by decide +kernel) (by decide +kernel)
theorem pr_14 : Prime 172054593956031949258510691 :=
  pk1 (q := 4434155615661930479) (m := 38802110) (a := 2) (k := 88) pr_13 (by decide +kernel) (by decide +kernel) (by decide +kernel) (by decide +kernel) (by decide +kernel) (by decide +kernel)
theorem pr_15 : Prime 19757330305831588566944191468367130476339 :=
  pk1 (q := 172054593956031949258510691) (m := 114831751082918) (a := 2) (k := 134) pr_14 (by decide +kernel) (by decide +kernel) (by decide +kernel) (by decide +kernel) (by decide +kernel) (by decide +kernel)
theorem pr_16 : Prime 276602624281642239937218680557139826668747 :=
  pk1 (q := 19757330305831588566944191468367130476339) (m := 14) (a := 2) (k := 138) pr_15 (by decide +kernel) (by decide +kernel) (by decide +kernel) (by decide +kernel) (by decide +kernel) (by decide +kernel)
theorem pr_17 : Prime 7237005577332262213973186563042994240857116359379907606001950938285454250989 :=
  pk1 (q := 276602624281642239937218680557139826668747) (m := 26163907866482859529727157400808004) (a := 2) (k := 253) pr_16 (by decide +kernel) (by decide +kernel) (by decide +kernel) (by decide +kernel) (by decide +kernel) (by decide +kernel)
theorem prime_l25519 : Prime 7237005577332262213973186563042994240857116359379907606001950938285454250989 := pr_17
end Go.Proofs.Ytgneclfnfnpmkaa.Fp
