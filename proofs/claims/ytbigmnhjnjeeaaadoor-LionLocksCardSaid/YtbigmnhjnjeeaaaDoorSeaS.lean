/-
  Sealed bytes, and wide blocks, as plain functions; own work.
-/
import Derived.Test.YtbigmnhjnjeeaaaDoorChaS
import Derived.Test.YtbigmnhjnjeeaaaDoorRef4e
set_option linter.unusedSimpArgs false
set_option linter.unusedVariables false
namespace Go.Proofs.YtbigmnhjnjeeaaaDoor
abbrev Bs8 := List (BitVec 8)
theorem mac_len32 (k m : Bs8) : (Sh.mac k m).length = 32 := by unfold Sh.mac; rfl
namespace Ad
def hideB : Bs8 := [104, 105, 100, 101]
def proveB : Bs8 := [112, 114, 111, 118, 101]
/-- a number's eight bytes, the lowest one first -/
def le8 (n : Nat) : Bs8 := (List.range 8).map fun i => BitVec.ofNat 8 (n / 256 ^ i)
def tag (k n other hidden : Bs8) : Bs8 := (Sh.mac (Sh.derive k proveB) (le8 other.length ++ other ++ n ++ hidden)).take 16
def hid (k n b : Bs8) : Bs8 := Ch.xr (Sh.derive k hideB) n 0 b
def sealed (k n other b : Bs8) : Bs8 := hid k n b ++ tag k n other (hid k n b)
end Ad
theorem le8_len (n : Nat) : (Ad.le8 n).length = 8 := by simp [Ad.le8]
theorem tag_len (k n o h : Bs8) : (Ad.tag k n o h).length = 16 := by unfold Ad.tag; rw [List.length_take, mac_len32]; rfl
theorem hid_len (k n b : Bs8) : (Ad.hid k n b).length = b.length := xr_len ..
theorem hid_hid (k n b : Bs8) : Ad.hid k n (Ad.hid k n b) = b := xr_xr ..
theorem sealed_len (k n o b : Bs8) : (Ad.sealed k n o b).length = b.length + 16 := by unfold Ad.sealed; rw [List.length_append, hid_len, tag_len]
theorem sealed_take (k n o b : Bs8) : (Ad.sealed k n o b).take b.length = Ad.hid k n b := by
  unfold Ad.sealed; rw [List.take_append_of_le_length (by rw [hid_len]; exact Nat.le_refl _), List.take_of_length_le (by rw [hid_len]; exact Nat.le_refl _)]
theorem sealed_drop (k n o b : Bs8) : (Ad.sealed k n o b).drop b.length = Ad.tag k n o (Ad.hid k n b) := by
  unfold Ad.sealed; rw [List.drop_append_of_le_length (by rw [hid_len]; exact Nat.le_refl _), List.drop_of_length_le (by rw [hid_len]; exact Nat.le_refl _), List.nil_append]
/-- bytes are opened just if they are what is sealed of what comes out -/
theorem sealed_iff (k n o c : Bs8) (hc : 16 ≤ c.length) (ht : Ad.tag k n o (c.take (c.length - 16)) = c.drop (c.length - 16)) : Ad.sealed k n o (Ad.hid k n (c.take (c.length - 16))) = c := by
  unfold Ad.sealed; rw [hid_hid, ht, List.take_append_drop]
namespace Li
/-- two rows of bytes, one turned by the other -/
def xo (a b : Bs8) : Bs8 := List.zipWith (· ^^^ ·) a b
def lab (i : Nat) : Bs8 := [108, 105, 111, 110, 32, BitVec.ofNat 8 (48 + i)]
def key (k : Bs8) (i : Nat) : Bs8 := Sh.derive k (lab i)
def st (k : Bs8) (p : Bs8 × Bs8) : Bs8 × Bs8 := (p.1, Ch.xr (xo k p.1) (zs 12) 0 p.2)
def tg (k : Bs8) (p : Bs8 × Bs8) : Bs8 × Bs8 := (xo p.1 (Sh.mac k p.2), p.2)
def cut (b : Bs8) : Bs8 × Bs8 := (b.take 32, b.drop 32)
def join (p : Bs8 × Bs8) : Bs8 := p.1 ++ p.2
def lock (k b : Bs8) : Bs8 := join (tg (key k 4) (st (key k 3) (tg (key k 2) (st (key k 1) (cut b)))))
def unlock (k b : Bs8) : Bs8 := join (st (key k 1) (tg (key k 2) (st (key k 3) (tg (key k 4) (cut b)))))
end Li
theorem xo_len (a b : Bs8) (h : a.length = b.length) : (Li.xo a b).length = a.length := by unfold Li.xo; rw [List.length_zipWith]; omega
theorem xo_xo (a b : Bs8) (h : a.length = b.length) : Li.xo (Li.xo a b) b = a := by
  unfold Li.xo
  induction a generalizing b with
  | nil => simp
  | cons x a ih =>
    cases b with
    | nil => simp at h
    | cons y b => simp [BitVec.xor_assoc, ih b (by simpa using h)]
theorem st_st (k : Bs8) (p : Bs8 × Bs8) : Li.st k (Li.st k p) = p := by
  unfold Li.st; rw [xr_xr]
theorem tg_tg (k : Bs8) (p : Bs8 × Bs8) (h : p.1.length = 32) : Li.tg k (Li.tg k p) = p := by
  unfold Li.tg; rw [xo_xo _ _ (by rw [h, mac_len32])]
theorem st_len (k : Bs8) (p : Bs8 × Bs8) : (Li.st k p).1.length = p.1.length ∧ (Li.st k p).2.length = p.2.length := ⟨rfl, xr_len ..⟩
theorem tg_len (k : Bs8) (p : Bs8 × Bs8) (h : p.1.length = 32) : (Li.tg k p).1.length = p.1.length ∧ (Li.tg k p).2.length = p.2.length := ⟨xo_len _ _ (by rw [h, mac_len32]), rfl⟩
theorem cut_join (p : Bs8 × Bs8) (h : p.1.length = 32) : Li.cut (Li.join p) = p := by
  unfold Li.cut Li.join
  rw [List.take_append_of_le_length (by omega), List.take_of_length_le (by omega), List.drop_append_of_le_length (by omega), List.drop_of_length_le (by omega), List.nil_append]
theorem join_cut (b : Bs8) : Li.join (Li.cut b) = b := List.take_append_drop ..
theorem cut_len (b : Bs8) (h : 32 ≤ b.length) : (Li.cut b).1.length = 32 ∧ (Li.cut b).2.length = b.length - 32 := by unfold Li.cut; simp; omega
theorem unlock_lock (k b : Bs8) (h : 32 ≤ b.length) : Li.unlock k (Li.lock k b) = b := by
  have h0 := (cut_len b h).1
  unfold Li.unlock Li.lock
  generalize Li.key k 1 = k1; generalize Li.key k 2 = k2; generalize Li.key k 3 = k3; generalize Li.key k 4 = k4
  have a1 : (Li.st k1 (Li.cut b)).1.length = 32 := by rw [(st_len ..).1, h0]
  have a2 : (Li.tg k2 (Li.st k1 (Li.cut b))).1.length = 32 := by rw [(tg_len _ _ a1).1, a1]
  have a3 : (Li.st k3 (Li.tg k2 (Li.st k1 (Li.cut b)))).1.length = 32 := by rw [(st_len ..).1, a2]
  have a4 : (Li.tg k4 (Li.st k3 (Li.tg k2 (Li.st k1 (Li.cut b))))).1.length = 32 := by rw [(tg_len _ _ a3).1, a3]
  rw [cut_join _ a4, tg_tg _ _ a3, st_st, tg_tg _ _ a1, st_st, join_cut]
theorem lock_unlock (k b : Bs8) (h : 32 ≤ b.length) : Li.lock k (Li.unlock k b) = b := by
  have h0 := (cut_len b h).1
  unfold Li.unlock Li.lock
  generalize Li.key k 1 = k1; generalize Li.key k 2 = k2; generalize Li.key k 3 = k3; generalize Li.key k 4 = k4
  have a1 : (Li.tg k4 (Li.cut b)).1.length = 32 := by rw [(tg_len _ _ h0).1, h0]
  have a2 : (Li.st k3 (Li.tg k4 (Li.cut b))).1.length = 32 := by rw [(st_len ..).1, a1]
  have a3 : (Li.tg k2 (Li.st k3 (Li.tg k4 (Li.cut b)))).1.length = 32 := by rw [(tg_len _ _ a2).1, a2]
  have a4 : (Li.st k1 (Li.tg k2 (Li.st k3 (Li.tg k4 (Li.cut b))))).1.length = 32 := by rw [(st_len ..).1, a3]
  rw [cut_join _ a4, st_st, tg_tg _ _ a2, st_st, tg_tg _ _ h0, join_cut]
theorem lock_len (k b : Bs8) (h : 32 ≤ b.length) : (Li.lock k b).length = b.length := by
  obtain ⟨h0, h1⟩ := cut_len b h
  unfold Li.lock Li.join
  have a1 := st_len (Li.key k 1) (Li.cut b)
  have a2 := tg_len (Li.key k 2) _ (by rw [a1.1, h0] : (Li.st (Li.key k 1) (Li.cut b)).1.length = 32)
  have a3 := st_len (Li.key k 3) (Li.tg (Li.key k 2) (Li.st (Li.key k 1) (Li.cut b)))
  have a4 := tg_len (Li.key k 4) _ (by rw [a3.1, a2.1, a1.1, h0] : (Li.st (Li.key k 3) (Li.tg (Li.key k 2) (Li.st (Li.key k 1) (Li.cut b)))).1.length = 32)
  rw [List.length_append, a4.1, a4.2, a3.1, a3.2, a2.1, a2.2, a1.1, a1.2, h0, h1]; omega
theorem unlock_len (k b : Bs8) (h : 32 ≤ b.length) : (Li.unlock k b).length = b.length := by
  obtain ⟨h0, h1⟩ := cut_len b h
  unfold Li.unlock Li.join
  have a1 := tg_len (Li.key k 4) _ h0
  have a2 := st_len (Li.key k 3) (Li.tg (Li.key k 4) (Li.cut b))
  have a3 := tg_len (Li.key k 2) _ (by rw [a2.1, a1.1, h0] : (Li.st (Li.key k 3) (Li.tg (Li.key k 4) (Li.cut b))).1.length = 32)
  have a4 := st_len (Li.key k 1) (Li.tg (Li.key k 2) (Li.st (Li.key k 3) (Li.tg (Li.key k 4) (Li.cut b))))
  rw [List.length_append, a4.1, a4.2, a3.1, a3.2, a2.1, a2.2, a1.1, a1.2, h0, h1]; omega
end Go.Proofs.YtbigmnhjnjeeaaaDoor
