/-
  Secrets as numbers: what two of them share, and that they may change places; own work.
-/
import Derived.Test.YtgneclfnfnpmkaaCv6
import Derived.Test.YtgneclfnfnpmkaaCvL
set_option linter.unusedVariables false
namespace Go.Proofs.Ytgneclfnfnpmkaa
open Go.RowKit Fp
theorem maskB_low (l : List (BitVec 8)) (h : l.length = 32) (h2 : (l.getD 31 0).toNat < 128) : maskB l = l := by
  unfold maskB
  have e : hi0 (g8 l 31) = l.getD 31 0 := hi0_low _ h2
  rw [e]
  apply List.ext_getElem (by simp)
  intro i h5 h6
  rw [List.getElem_set]
  split
  · rename_i hi; subst hi; rw [List.getD_eq_getElem?_getD, List.getElem?_eq_getElem h6]; rfl
  · rfl
theorem maskB_K (x : F) : maskB (K x) = K x := by
  apply maskB_low _ (by simp)
  rw [top_byte (K x) (by simp), show leN (K x) = x.val from leN_kb (val_lt x)]
  exact Nat.div_lt_of_lt_mul (Nat.lt_of_lt_of_le x.isLt (by decide +kernel))
theorem clamp_L (a : List (BitVec 8)) (ha : a.length = 32) : ¬ L ∣ leN (clampB a) := by
  intro hd
  have h8 := clamp_mod a ha
  obtain ⟨h1, h2⟩ := clamp_rng a ha
  obtain ⟨m, hm⟩ := hd
  rw [show (2 : Nat) ^ 254 = 28948022309329048855892746252171976963317496166410141009864396001978282409984 by decide +kernel] at h1
  rw [show (2 : Nat) ^ 255 = 57896044618658097711785492504343953926634992332820282019728792003956564819968 by decide +kernel] at h2
  exact no_mult _ m h8 h1 h2 hm
theorem pair_facts (a b : List (BitVec 8)) (ha : a.length = 32) (hb : b.length = 32) :
    gv (leN (clampB b)) (gv (leN (clampB a)) 9) = gv (leN (clampB a)) (gv (leN (clampB b)) 9) ∧ gv (leN (clampB a)) (gv (leN (clampB b)) 9) ≠ 0 := by
  obtain ⟨-, a2⟩ := clamp_rng a ha
  obtain ⟨-, b2⟩ := clamp_rng b hb
  have na := clamp_L a ha
  have nb := clamp_L b hb
  obtain ⟨p1, p2⟩ := pair_ne _ _ b2 a2 nb na
  obtain ⟨q1, q2⟩ := pair_ne _ _ a2 b2 na nb
  simp only [gv_eq]
  exact ⟨gx_comm nine_ne _ _ a2 b2 q1 p1, p2⟩
theorem g8_set (l : List (BitVec 8)) (i : Nat) (x : BitVec 8) (h : i < l.length) : g8 (l.set i x) i = x := by
  show (l.set i x).getD i 0 = x
  rw [List.getD_eq_getElem?_getD, List.getElem?_set_self h]; rfl
theorem g8_set_ne (l : List (BitVec 8)) (i j : Nat) (x : BitVec 8) (h : i ≠ j) : g8 (l.set i x) j = g8 l j := by
  show (l.set i x).getD j 0 = l.getD j 0
  rw [List.getD_eq_getElem?_getD, List.getElem?_set_ne h, List.getD_eq_getElem?_getD]
theorem clampB_eq (a : List (BitVec 8)) (ha : a.length = 32) : clampB a = (a.set 0 (cl0 (g8 a 0))).set 31 (cl31 (g8 a 31)) := by
  unfold clampB; rw [g8_set_ne _ _ _ _ (by decide)]
theorem clampB_clampB (a : List (BitVec 8)) (ha : a.length = 32) : clampB (clampB a) = clampB a := by
  have h0 : g8 (clampB a) 0 = cl0 (g8 a 0) := by rw [clampB_eq a ha, g8_set_ne _ _ _ _ (by decide), g8_set _ _ _ (by omega)]
  have h1 : g8 (clampB a) 31 = cl31 (g8 a 31) := by rw [clampB_eq a ha, g8_set _ _ _ (by simp; omega)]
  rw [clampB_eq (clampB a) (by simp [ha]), h0, h1, cl0_cl0, cl31_cl31, clampB_eq a ha]
  apply List.ext_getElem (by simp)
  intro i h5 h6
  simp only [List.getElem_set]
  split
  · rfl
  · split <;> rfl
theorem maskB_set (a : List (BitVec 8)) (ha : a.length = 32) (x : BitVec 8) : maskB (a.set 31 x) = a.set 31 (hi0 x) := by
  unfold maskB; rw [g8_set _ _ _ (by omega), List.set_set]
theorem maskB_flip (a : List (BitVec 8)) (ha : a.length = 32) : maskB (a.set 31 (g8 a 31 ^^^ 128#8)) = maskB a := by
  rw [maskB_set a ha, hi0_flip]; rfl
theorem Fk_zs : Fk (zs 32) = 0 := by decide +kernel
theorem maskB_zs : maskB (zs 32) = zs 32 := by decide +kernel
/-- what a secret has with the point of another one -/
noncomputable def pv (a b : List (BitVec 8)) : F := gv (leN (clampB a)) (gv (leN (clampB b)) 9)
theorem pv_ne (a b : List (BitVec 8)) (ha : a.length = 32) (hb : b.length = 32) : pv a b ≠ 0 := (pair_facts a b ha hb).2
theorem pv_comm (a b : List (BitVec 8)) (ha : a.length = 32) (hb : b.length = 32) : pv b a = pv a b := (pair_facts a b ha hb).1
theorem shv_K (a : List (BitVec 8)) (x : F) : shv a (K x) = gv (leN (clampB a)) x := by unfold shv; rw [maskB_K, Fk_K]
theorem shared_p (w : World) (a b : List (BitVec 8)) (ha : a.length = 32) (hb : b.length = 32) :
    Calls Try.prog 32 #[.agg (cs U8 a), .agg (cs U8 (K (gv (leN (clampB b)) 9)))] w fun e w' => e = .returned (.tuple #[.agg (cs U8 (K (pv a b))), .int .i64 0]) ∧ Below w.heap.size w w' := by
  have h := shared_c w a (K (gv (leN (clampB b)) 9)) ha (by simp)
  have e : ec (shv a (K (gv (leN (clampB b)) 9))) = 0 := by rw [shv_K]; exact if_neg (pv_ne a b ha hb)
  rw [e, shv_K] at h
  exact h
theorem shared_q (w : World) (a b : List (BitVec 8)) (ha : a.length = 32) (hb : b.length = 32) :
    Calls Try.prog 32 #[.agg (cs U8 b), .agg (cs U8 (K (gv (leN (clampB a)) 9)))] w fun e w' => e = .returned (.tuple #[.agg (cs U8 (K (pv a b))), .int .i64 0]) ∧ Below w.heap.size w w' := by
  have h := shared_p w b a hb ha
  rw [pv_comm a b ha hb] at h; exact h
theorem shared_z (w : World) (a : List (BitVec 8)) (ha : a.length = 32) (hz : gv (leN (clampB a)) 0 = 0) :
    Calls Try.prog 32 #[.agg (cs U8 a), .agg (cs U8 (zs 32))] w fun e w' => e = .returned (.tuple #[.agg (cs U8 (zs 32)), .int .i64 7]) ∧ Below w.heap.size w w' := by
  have h := shared_c w a (zs 32) ha (by decide)
  have e : shv a (zs 32) = 0 := by unfold shv; rw [maskB_zs, Fk_zs, hz]
  rw [e, K_zero] at h; exact h
/-- secrets with one scalar, keys with one point -/
theorem shared_b (w : World) (a b a' b' : List (BitVec 8)) (ha : a'.length = 32) (hb : b'.length = 32) (h1 : clampB a' = clampB a) (h2 : Fk (maskB b') = Fk (maskB b)) :
    Calls Try.prog 32 #[.agg (cs U8 a'), .agg (cs U8 b')] w fun e w' => e = .returned (.tuple #[.agg (cs U8 (K (shv a b))), .int .i64 (ec (shv a b))]) ∧ Below w.heap.size w w' := by
  have h := shared_c w a' b' ha hb
  have e : shv a' b' = shv a b := by unfold shv; rw [h1, h2]
  rw [e] at h; exact h
end Go.Proofs.Ytgneclfnfnpmkaa
