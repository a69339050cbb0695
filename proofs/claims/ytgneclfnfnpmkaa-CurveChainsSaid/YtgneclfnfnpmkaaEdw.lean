/-
  The field of 2^255 - 19 numbers, Edwards curves over it, and the ladder; own work.
-/
import Derived.Test.YtgneclfnfnpmkaaPrime
set_option linter.unusedVariables false
namespace Go.Proofs.Ytgneclfnfnpmkaa.Fp
def P : Nat := 57896044618658097711785492504343953926634992332820282019728792003956564819949
instance : NeZero P := ⟨by decide⟩
abbrev F := Fin P
theorem prP : Prime P := prime_p25519
theorem val_mul (a b : F) : (a * b).val = a.val * b.val % P := rfl
theorem val_pow (a : F) : ∀ n : Nat, (a ^ n).val = a.val ^ n % P
  | 0 => by
    have h : a ^ 0 = 1 := by grind
    rw [h, Nat.pow_zero]; decide +kernel
  | n + 1 => by
    have h : a ^ (n + 1) = a ^ n * a := by grind
    rw [h, val_mul, val_pow a n, Nat.pow_succ, Nat.mod_mul_mod]
theorem F.ne_zero {a : F} (h : a ≠ 0) : ¬ P ∣ a.val := by
  intro hd
  apply h
  have h1 : a.val = 0 := Nat.eq_zero_of_dvd_of_lt hd a.isLt
  exact Fin.ext h1
theorem mul_eq_zero {a b : F} (h : a * b = 0) : a = 0 ∨ b = 0 := by
  have h1 : a.val * b.val % P = 0 := by rw [← val_mul, h]; rfl
  rcases prP.dvd_mul (Nat.dvd_of_mod_eq_zero h1) with h2 | h2
  · exact .inl (Fin.ext (Nat.eq_zero_of_dvd_of_lt h2 a.isLt))
  · exact .inr (Fin.ext (Nat.eq_zero_of_dvd_of_lt h2 b.isLt))
theorem mul_ne {a b : F} (ha : a ≠ 0) (hb : b ≠ 0) : a * b ≠ 0 := fun h => (mul_eq_zero h).elim ha hb
theorem fermat {a : F} (h : a ≠ 0) : a ^ (P - 1) = 1 := by
  apply Fin.ext
  rw [val_pow, prP.fermat (F.ne_zero h)]
  decide +kernel
def inv (a : F) : F := a ^ (P - 2)
theorem mul_inv {a : F} (h : a ≠ 0) : a * inv a = 1 := by
  have e : P - 1 = (P - 2) + 1 := by decide +kernel
  have h1 := fermat h
  rw [e] at h1
  have h2 : a ^ (P - 2 + 1) = a ^ (P - 2) * a := by grind
  rw [h2] at h1
  unfold inv
  generalize a ^ (P - 2) = c at *
  grind
theorem two_ne : (2 : F) ≠ 0 := by decide +kernel
theorem cancel {a b c : F} (hc : c ≠ 0) (h : c * a = c * b) : a = b := by
  have : c * (a - b) = 0 := by grind
  rcases mul_eq_zero this with h1 | h1
  · exact absurd h1 hc
  · grind
/-- no square -/
def NS (D : F) : Prop := ∀ a b : F, a * a = D * (b * b) → b = 0
structure Pt (D : F) where
  x : F
  y : F
  on : x * x + y * y = 1 + D * x * x * y * y
section
variable {D : F}
theorem Pt.ext {p q : Pt D} (h1 : p.x = q.x) (h2 : p.y = q.y) : p = q := by
  cases p; cases q; simp at h1 h2; subst h1; subst h2; rfl
theorem complete (hD : NS D) {x1 y1 x2 y2 e : F} (h1 : x1 * x1 + y1 * y1 = 1 + D * x1 * x1 * y1 * y1) (h2 : x2 * x2 + y2 * y2 = 1 + D * x2 * x2 * y2 * y2) (he : e * e = 1) : 1 + e * (D * x1 * x2 * y1 * y2) ≠ 0 := by
  intro h
  have e1 : D * x1 * x2 * y1 * y2 = - e := by grind
  have k1 : (x1 - e * y1) * (x1 - e * y1) = D * ((x1 * y1 * (x2 + y2)) * (x1 * y1 * (x2 + y2))) := by grind
  have k2 : (x1 + e * y1) * (x1 + e * y1) = D * ((x1 * y1 * (x2 - y2)) * (x1 * y1 * (x2 - y2))) := by grind
  have z1 := hD _ _ k1
  have z2 := hD _ _ k2
  have n1 : x1 * y1 ≠ 0 := by intro hz; have : e = 0 := by grind
                              rw [this] at he; exact absurd he (by decide +kernel)
  rcases mul_eq_zero z1 with a | a
  · exact n1 a
  · rcases mul_eq_zero z2 with b | b
    · exact n1 b
    · have : 2 * x2 = 0 := by grind
      rcases mul_eq_zero this with c | c
      · exact two_ne c
      · have c2 : y2 = 0 := by grind
        have : (0 : F) = 1 := by grind
        exact absurd this (by decide +kernel)
theorem dp_ne (hD : NS D) (p q : Pt D) : 1 + D * p.x * q.x * p.y * q.y ≠ 0 := by
  have := complete hD (e := 1) p.on q.on (by decide +kernel)
  intro h; apply this; grind
theorem dm_ne (hD : NS D) (p q : Pt D) : 1 - D * p.x * q.x * p.y * q.y ≠ 0 := by
  have := complete hD (e := -1) p.on q.on (by decide +kernel)
  intro h; apply this; grind
theorem add_on {x1 y1 x2 y2 i j : F} (h1 : x1 * x1 + y1 * y1 = 1 + D * x1 * x1 * y1 * y1) (h2 : x2 * x2 + y2 * y2 = 1 + D * x2 * x2 * y2 * y2)
    (hi : (1 + D * x1 * x2 * y1 * y2) * i = 1) (hj : (1 - D * x1 * x2 * y1 * y2) * j = 1) :
    ((x1 * y2 + y1 * x2) * i) * ((x1 * y2 + y1 * x2) * i) + ((y1 * y2 - x1 * x2) * j) * ((y1 * y2 - x1 * x2) * j) = 1 + D * ((x1 * y2 + y1 * x2) * i) * ((x1 * y2 + y1 * x2) * i) * ((y1 * y2 - x1 * x2) * j) * ((y1 * y2 - x1 * x2) * j) := by
  have key : (x1 * y2 + y1 * x2) * (x1 * y2 + y1 * x2) * ((1 - D * x1 * x2 * y1 * y2) * (1 - D * x1 * x2 * y1 * y2)) + (y1 * y2 - x1 * x2) * (y1 * y2 - x1 * x2) * ((1 + D * x1 * x2 * y1 * y2) * (1 + D * x1 * x2 * y1 * y2)) =
      (1 + D * x1 * x2 * y1 * y2) * (1 + D * x1 * x2 * y1 * y2) * ((1 - D * x1 * x2 * y1 * y2) * (1 - D * x1 * x2 * y1 * y2)) + D * ((x1 * y2 + y1 * x2) * (x1 * y2 + y1 * x2)) * ((y1 * y2 - x1 * x2) * (y1 * y2 - x1 * x2)) := by grind
  generalize x1 * y2 + y1 * x2 = a at *
  generalize y1 * y2 - x1 * x2 = b at *
  generalize 1 + D * x1 * x2 * y1 * y2 = p at *
  generalize 1 - D * x1 * x2 * y1 * y2 = q at *
  have e : (i * i) * (j * j) * (a * a * (q * q) + b * b * (p * p)) = (i * i) * (j * j) * (p * p * (q * q) + D * (a * a) * (b * b)) := by rw [key]
  clear key h1 h2
  grind
def Pt.add (hD : NS D) (p q : Pt D) : Pt D :=
  ⟨(p.x * q.y + p.y * q.x) * inv (1 + D * p.x * q.x * p.y * q.y), (p.y * q.y - p.x * q.x) * inv (1 - D * p.x * q.x * p.y * q.y),
    add_on p.on q.on (mul_inv (dp_ne hD p q)) (mul_inv (dm_ne hD p q))⟩
def Pt.O : Pt D := ⟨0, 1, by grind⟩
def Pt.neg (p : Pt D) : Pt D := ⟨-p.x, p.y, by have := p.on; grind⟩
variable (hD : NS D)
theorem add_x (p q : Pt D) : (1 + D * p.x * q.x * p.y * q.y) * (p.add hD q).x = p.x * q.y + p.y * q.x := by
  have h := mul_inv (dp_ne hD p q)
  show _ * ((p.x * q.y + p.y * q.x) * inv _) = _
  generalize inv (1 + D * p.x * q.x * p.y * q.y) = i at *
  grind
theorem add_y (p q : Pt D) : (1 - D * p.x * q.x * p.y * q.y) * (p.add hD q).y = p.y * q.y - p.x * q.x := by
  have h := mul_inv (dm_ne hD p q)
  show _ * ((p.y * q.y - p.x * q.x) * inv _) = _
  generalize inv (1 - D * p.x * q.x * p.y * q.y) = i at *
  grind
theorem add_comm (p q : Pt D) : p.add hD q = q.add hD p := by
  have a1 := add_x hD p q; have a2 := add_x hD q p; have b1 := add_y hD p q; have b2 := add_y hD q p
  have c1 := dp_ne hD p q; have c2 := dm_ne hD p q
  refine Pt.ext (cancel c1 ?_) (cancel c2 ?_)
  · rw [a1]
    have : 1 + D * p.x * q.x * p.y * q.y = 1 + D * q.x * p.x * q.y * p.y := by grind
    rw [this, a2]; grind
  · rw [b1]
    have : 1 - D * p.x * q.x * p.y * q.y = 1 - D * q.x * p.x * q.y * p.y := by grind
    rw [this, b2]; grind
theorem add_zero (p : Pt D) : p.add hD .O = p := by
  have a1 := add_x hD p .O; have b1 := add_y hD p .O
  refine Pt.ext ?_ ?_
  · have e1 : (Pt.O : Pt D).x = 0 := rfl
    have e2 : (Pt.O : Pt D).y = 1 := rfl
    rw [e1, e2] at a1; grind
  · have e1 : (Pt.O : Pt D).x = 0 := rfl
    have e2 : (Pt.O : Pt D).y = 1 := rfl
    rw [e1, e2] at b1; grind
theorem zero_add (p : Pt D) : Pt.O.add hD p = p := by rw [add_comm, add_zero]
theorem assocx (x1 y1 x2 y2 x3 y3 : F) (h1 : x1*x1+y1*y1 = 1 + D*x1*x1*y1*y1) (h2 : x2*x2+y2*y2 = 1 + D*x2*x2*y2*y2) (h3 : x3*x3+y3*y3 = 1 + D*x3*x3*y3*y3) :
  ((x1*y2+y1*x2)*(1-D*x1*x2*y1*y2)*y3 + (y1*y2-x1*x2)*(1+D*x1*x2*y1*y2)*x3)*((1+D*x2*x3*y2*y3)*(1-D*x2*x3*y2*y3)+D*x1*y1*(x2*y3+y2*x3)*(y2*y3-x2*x3)) =
  (x1*(y2*y3-x2*x3)*(1+D*x2*x3*y2*y3)+y1*(x2*y3+y2*x3)*(1-D*x2*x3*y2*y3))*((1+D*x1*x2*y1*y2)*(1-D*x1*x2*y1*y2)+D*x3*y3*(x1*y2+y1*x2)*(y1*y2-x1*x2)) := by
  grind
theorem assocy (x1 y1 x2 y2 x3 y3 : F) (h1 : x1*x1+y1*y1 = 1 + D*x1*x1*y1*y1) (h2 : x2*x2+y2*y2 = 1 + D*x2*x2*y2*y2) (h3 : x3*x3+y3*y3 = 1 + D*x3*x3*y3*y3) :
  ((y1*y2-x1*x2)*(1+D*x1*x2*y1*y2)*y3 - (x1*y2+y1*x2)*(1-D*x1*x2*y1*y2)*x3)*((1+D*x2*x3*y2*y3)*(1-D*x2*x3*y2*y3)-D*x1*y1*(x2*y3+y2*x3)*(y2*y3-x2*x3)) =
  (y1*(y2*y3-x2*x3)*(1+D*x2*x3*y2*y3)-x1*(x2*y3+y2*x3)*(1-D*x2*x3*y2*y3))*((1+D*x1*x2*y1*y2)*(1-D*x1*x2*y1*y2)-D*x3*y3*(x1*y2+y1*x2)*(y1*y2-x1*x2)) := by
  grind
theorem add_assoc (p q r : Pt D) : (p.add hD q).add hD r = p.add hD (q.add hD r) := by
  have hx := assocx (D := D) p.x p.y q.x q.y r.x r.y p.on q.on r.on
  have hy := assocy (D := D) p.x p.y q.x q.y r.x r.y p.on q.on r.on
  have a1 := add_x hD p q; have b1 := add_y hD p q; have a2 := add_x hD q r; have b2 := add_y hD q r
  have a3 := add_x hD (p.add hD q) r; have b3 := add_y hD (p.add hD q) r
  have a4 := add_x hD p (q.add hD r); have b4 := add_y hD p (q.add hD r)
  have n1 := dp_ne hD p q; have n2 := dm_ne hD p q; have n3 := dp_ne hD q r; have n4 := dm_ne hD q r
  have n5 := dp_ne hD (p.add hD q) r; have n6 := dm_ne hD (p.add hD q) r
  have n7 := dp_ne hD p (q.add hD r); have n8 := dm_ne hD p (q.add hD r)
  refine Pt.ext ?_ ?_
  · refine cancel (mul_ne (mul_ne (mul_ne n1 n2) (mul_ne n3 n4)) (mul_ne n5 n7)) ?_
    generalize ((p.add hD q).add hD r).x = X at *
    generalize (p.add hD (q.add hD r)).x = X' at *
    generalize (p.add hD q).x = u at *
    generalize (p.add hD q).y = v at *
    generalize (q.add hD r).x = s at *
    generalize (q.add hD r).y = t at *
    clear b3 b4 n1 n2 n3 n4 n5 n6 n7 n8 hy
    obtain ⟨x1, y1, o1⟩ := p; obtain ⟨x2, y2, o2⟩ := q; obtain ⟨x3, y3, o3⟩ := r
    simp only at *
    clear o1 o2 o3
    have k1 : (1 + D * x1 * x2 * y1 * y2) * (1 - D * x1 * x2 * y1 * y2) * ((1 + D * u * x3 * v * y3)) = (1+D*x1*x2*y1*y2)*(1-D*x1*x2*y1*y2)+D*x3*y3*(x1*y2+y1*x2)*(y1*y2-x1*x2) := by rw [← a1, ← b1]; grind
    have k2 : (1 + D * x2 * x3 * y2 * y3) * (1 - D * x2 * x3 * y2 * y3) * ((1 + D * x1 * s * y1 * t)) = (1+D*x2*x3*y2*y3)*(1-D*x2*x3*y2*y3)+D*x1*y1*(x2*y3+y2*x3)*(y2*y3-x2*x3) := by rw [← a2, ← b2]; grind
    have k3 : (1 + D * x1 * x2 * y1 * y2) * (1 - D * x1 * x2 * y1 * y2) * (u * y3 + v * x3) = (x1*y2+y1*x2)*(1-D*x1*x2*y1*y2)*y3 + (y1*y2-x1*x2)*(1+D*x1*x2*y1*y2)*x3 := by rw [← a1, ← b1]; grind
    have k4 : (1 + D * x2 * x3 * y2 * y3) * (1 - D * x2 * x3 * y2 * y3) * (x1 * t + y1 * s) = x1*(y2*y3-x2*x3)*(1+D*x2*x3*y2*y3)+y1*(x2*y3+y2*x3)*(1-D*x2*x3*y2*y3) := by rw [← a2, ← b2]; grind
    rw [← k1, ← k2, ← k3, ← k4] at hx
    clear k1 k2 k3 k4 a1 b1 a2 b2
    generalize 1 + D * x1 * x2 * y1 * y2 = A at *
    generalize 1 - D * x1 * x2 * y1 * y2 = B at *
    generalize 1 + D * x2 * x3 * y2 * y3 = C at *
    generalize 1 - D * x2 * x3 * y2 * y3 = E at *
    generalize 1 + D * u * x3 * v * y3 = G at *
    generalize 1 + D * x1 * s * y1 * t = H at *
    rw [← a3, ← a4] at hx
    grind
  · refine cancel (mul_ne (mul_ne (mul_ne n1 n2) (mul_ne n3 n4)) (mul_ne n6 n8)) ?_
    generalize ((p.add hD q).add hD r).y = X at *
    generalize (p.add hD (q.add hD r)).y = X' at *
    generalize (p.add hD q).x = u at *
    generalize (p.add hD q).y = v at *
    generalize (q.add hD r).x = s at *
    generalize (q.add hD r).y = t at *
    clear a3 a4 n1 n2 n3 n4 n5 n6 n7 n8 hx
    obtain ⟨x1, y1, o1⟩ := p; obtain ⟨x2, y2, o2⟩ := q; obtain ⟨x3, y3, o3⟩ := r
    simp only at *
    clear o1 o2 o3
    have k1 : (1 + D * x1 * x2 * y1 * y2) * (1 - D * x1 * x2 * y1 * y2) * ((1 - D * u * x3 * v * y3)) = (1+D*x1*x2*y1*y2)*(1-D*x1*x2*y1*y2)-D*x3*y3*(x1*y2+y1*x2)*(y1*y2-x1*x2) := by rw [← a1, ← b1]; grind
    have k2 : (1 + D * x2 * x3 * y2 * y3) * (1 - D * x2 * x3 * y2 * y3) * ((1 - D * x1 * s * y1 * t)) = (1+D*x2*x3*y2*y3)*(1-D*x2*x3*y2*y3)-D*x1*y1*(x2*y3+y2*x3)*(y2*y3-x2*x3) := by rw [← a2, ← b2]; grind
    have k3 : (1 + D * x1 * x2 * y1 * y2) * (1 - D * x1 * x2 * y1 * y2) * (v * y3 - u * x3) = (y1*y2-x1*x2)*(1+D*x1*x2*y1*y2)*y3 - (x1*y2+y1*x2)*(1-D*x1*x2*y1*y2)*x3 := by rw [← a1, ← b1]; grind
    have k4 : (1 + D * x2 * x3 * y2 * y3) * (1 - D * x2 * x3 * y2 * y3) * (y1 * t - x1 * s) = y1*(y2*y3-x2*x3)*(1+D*x2*x3*y2*y3)-x1*(x2*y3+y2*x3)*(1-D*x2*x3*y2*y3) := by rw [← a2, ← b2]; grind
    rw [← k1, ← k2, ← k3, ← k4] at hy
    clear k1 k2 k3 k4 a1 b1 a2 b2
    generalize 1 + D * x1 * x2 * y1 * y2 = A at *
    generalize 1 - D * x1 * x2 * y1 * y2 = B at *
    generalize 1 + D * x2 * x3 * y2 * y3 = C at *
    generalize 1 - D * x2 * x3 * y2 * y3 = E at *
    generalize 1 - D * u * x3 * v * y3 = G at *
    generalize 1 - D * x1 * s * y1 * t = H at *
    rw [← b3, ← b4] at hy
    grind
end
end Go.Proofs.Ytgneclfnfnpmkaa.Fp
