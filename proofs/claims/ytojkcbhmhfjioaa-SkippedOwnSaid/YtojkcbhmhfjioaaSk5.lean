/-
  Package skipped: Put; own work.
-/
import Derived.Test.YtojkcbhmhfjioaaSk4
import Derived.Test.YtojkcbhmhfjioaaObj
import Derived.Deep.Cut
import Derived.Deep.CutBlock
set_option linter.unusedSimpArgs false
set_option linter.unusedVariables false
namespace Go.Proofs.Ytojkcbhmhfjioaa
open Go.RowKit
/-- what a call that turns a Store leaves behind -/
def PutPost (w : World) (B b : Nat) (room : Int) (v : Value) (res : List Sk.En × Int) : Ending → World → Prop := fun e w' =>
  ∃ v', e = .returned (.int .i64 res.2) ∧ SO w' B b room res.1 v' ∧ Fr (SF b v) w w' ∧ ∀ g, obk v' = some g → obk v = some g ∨ w.heap.size ≤ g
section
variable {w w' : World} {B b : Nat} {room : Int} {L : List Sk.En} {v : Value}
theorem PutPost.same (R : SO w B b room L v) (hb : Below w.heap.size w w') (q : Int) : PutPost w B b room v (L, q) (.returned (.int .i64 q)) w' :=
  ⟨v, rfl, R.below hb, Fr.of_below hb, fun g hg => .inl hg⟩
theorem PutPost.fin (R : SO w B b room L v) {wA wz : World} {ua : Value} {H0 H : List (Nat × Array Value)} {S1 : Nat → Prop} {L' : List Sk.En} {n' : Nat} (OA : Ow wA B 65 ua n' (fl eE L')) (hn' : L'.length = n') (BA : ∀ g, obk ua = some g → obk v = some g ∨ w.heap.size ≤ g)
    (hS1 : ∀ g, S1 g → g ∈ H0.map (·.1)) (hd : ∀ p ∈ H0, obk ua ≠ some p.1) (M1 : Mm S1 wA H wz) (MZ : Mm (SF b v) w H wz) (hm : (b, STR room ua) ∈ H) (q : Int) : PutPost w B b room v (L', q) (.returned (.int .i64 q)) wz := by
  obtain ⟨_, T, hT, hrow⟩ := MZ.own _ hm
  have hbw := (R.lt b (.inl rfl)).2
  have hO : Ow wz B 65 ua L'.length (fl eE L') := by
    rw [hn']; exact OA.fr M1.fr (fun g hg hs => by
      obtain ⟨p, hp, rfl⟩ := List.mem_map.1 (hS1 g hs)
      exact hd p hp hg)
  refine ⟨ua, rfl, ⟨⟨T, hT, hrow⟩, R.bb, hO, fun e => ?_⟩, MZ.fr, BA⟩
  rcases BA b e with h | h
  · exact R.ne h
  · omega
end
theorem xb_en4 (w : World) {p k : Ky} {n : Int} {x : Sk.En} (hx : x = ⟨p, k, n⟩) : exBuild Try.prog 41 #[(0, .agg (cs U8 p.l)), (1, .agg (cs U8 k.l)), (2, .int .i64 n)] w = .ok (.value (.agg (ENR x))) w := by
  subst hx; exact xb_en3 w ⟨p, k, n⟩
theorem sgood_t {B b : Nat} {room : Int} {L : List Sk.En} {v : Value} (w : World) (R : SO w B b room L v) (h : 0 < room) :
    Calls Try.prog 38 #[.pointer (some ⟨b, 0, none⟩)] w fun e w' => e = .returned (.bool true) ∧ Below w.heap.size w w' := by
  obtain ⟨r, hr⟩ : ∃ r, decide (0 < room) = r := ⟨_, rfl⟩
  have e : true = r := by rw [← hr]; exact (decide_eq_true h).symm
  rw [e, ← hr]
  exact sgood_c w b room v R.rowOf (R.lt b (.inl rfl)).2
attribute [local irreducible] ENR STR wpT
set_option maxRecDepth 100000 in
set_option maxHeartbeats 4000000 in
theorem sput_c (w : World) (B b : Nat) (room : Int) (L : List Sk.En) (v : Value) (R : SO w B b room L v) (hrm : 0 < room) (p : Ky) (f : Int) (u : Value) (ks : List Ky) (hK : SV w u ks.length (fl eK ks)) (h9 : L.length ≤ 100000) :
    Calls Try.prog 13 #[.pointer (some ⟨b, 0, none⟩), .agg (cs U8 p.l), .int .i64 f, u] w (PutPost w B b room v (Sk.put room.toNat L p f ks)) := by
  have hBw : B ≤ w.heap.size := by have := R.lt b (.inl rfl); omega
  have hbw : b < w.heap.size := (R.lt b (.inl rfl)).2
  have HR := hid R
  have HROW : Hid (∀ w', Below w.heap.size w w' → w'.rowOf b = STR room v) := hid fun w' h => (R.below h).rowOf
  have HK0 := hid hK
  obtain ⟨n, hn⟩ : ∃ n, ks.length = n := ⟨_, rfl⟩
  obtain ⟨m, hm⟩ : ∃ n, L.length = n := ⟨_, rfl⟩
  obtain ⟨ua, uc, rfl, hnc, hmx, _⟩ := hK
  rw [hn] at HK0 hnc ⊢
  have hncl : n ≤ 9223372036854775807 := by unfold maxLen at hmx; omega
  unfold Sk.put
  rw [hn, hm]
  have hn0 : (0 : Int) ≤ (n : Int) := by omega
  by_cases c1 : f < 0
  · rw [if_pos (.inl c1)]
    clear R hn hm hnc hmx
    have M0 := Mm.start no w
    go_enter Try.func13, Try.ntmps13
    have M2 := (M0.alloc (cs U8 p.l) 28 (by decide))
    try simp only [World.size_alloc] at M2
    go_upto_region 1 with fail
    obtain ⟨w1, hw1⟩ : ∃ w1, w1 = (w.alloc (.cells (cs U8 p.l) 28)) := ⟨_, rfl⟩
    rw [← hw1] at M2 ⊢
    clear hw1
    refine wp_region_lin (.op 0 (.op 1 (.op 2 (.op 3 .done)))) (by rfl) ?_
    refine wpT_valp 13 (v := .pointer (some ⟨b, 0, none⟩)) rfl rfl rfl (by go_simp) ?_
    refine wpT_callv 14 M2 (v := .bool true) rfl rfl rfl (by go_simp) (sgood_t w1 (HR.out.below M2.end_) hrm) (fun w3 M4 => ?_)
    refine wpT_valp 15 (v := .bool false) rfl rfl rfl (by go_simp) ?_
    refine wpT_valp 12 (v := .bool false) rfl rfl rfl (by go_simp) ?_
    first | dsimp only [wpT] | refine wpT_fin ?_
    try simp only [Act.put, List.setIfInBounds_toArray, List.set_cons_succ, List.set_cons_zero]
    go_upto_region 3 with fail
    refine wp_region_lin (.op 0 (.op 1 (.op 2 (.op 3 (.op 4 (.op 5 (.op 6 (.op 7 (.op 8 (.op 9 (.op 10 (.op 11 (.op 12 (.op 13 .done)))))))))))))) (by rfl) ?_
    refine wpT_valp 17 (v := .int .i64 f) rfl rfl rfl (by go_simp) ?_
    refine wpT_valp 18 (v := .bool true) rfl rfl rfl (by go_simp) ?_
    refine wpT_valp 19 (v := .bool true) rfl rfl rfl (by go_simp) ?_
    refine wpT_unx 20 rfl rfl (by simp [Region.wanted, yielded, Act.put]) ?_
    try simp only [Act.put, List.setIfInBounds_toArray, List.set_cons_succ, List.set_cons_zero]
    refine wpT_unx 21 rfl rfl (by simp [Region.wanted, yielded, Act.put]) ?_
    try simp only [Act.put, List.setIfInBounds_toArray, List.set_cons_succ, List.set_cons_zero]
    refine wpT_valp 22 (v := .bool true) rfl rfl rfl (by go_simp) ?_
    refine wpT_valp 23 (v := .bool true) rfl rfl rfl (by go_simp) ?_
    refine wpT_unx 24 rfl rfl (by simp [Region.wanted, yielded, Act.put]) ?_
    try simp only [Act.put, List.setIfInBounds_toArray, List.set_cons_succ, List.set_cons_zero]
    refine wpT_unx 25 rfl rfl (by simp [Region.wanted, yielded, Act.put]) ?_
    try simp only [Act.put, List.setIfInBounds_toArray, List.set_cons_succ, List.set_cons_zero]
    refine wpT_unx 26 rfl rfl (by simp [Region.wanted, yielded, Act.put]) ?_
    try simp only [Act.put, List.setIfInBounds_toArray, List.set_cons_succ, List.set_cons_zero]
    refine wpT_unx 27 rfl rfl (by simp [Region.wanted, yielded, Act.put]) ?_
    try simp only [Act.put, List.setIfInBounds_toArray, List.set_cons_succ, List.set_cons_zero]
    refine wpT_unx 28 rfl rfl (by simp [Region.wanted, yielded, Act.put]) ?_
    try simp only [Act.put, List.setIfInBounds_toArray, List.set_cons_succ, List.set_cons_zero]
    refine wpT_valp 29 (v := .bool true) rfl rfl rfl (by go_simp) ?_
    refine wpT_valp 16 (v := .bool true) rfl rfl rfl (by go_simp) ?_
    first | dsimp only [wpT] | refine wpT_fin ?_
    try simp only [Act.put, List.setIfInBounds_toArray, List.set_cons_succ, List.set_cons_zero]
    go_upto_region 4 with fail
    refine wp_region_lin (.op 0 .done) (by rfl) ?_
    refine wpT_valp 8 (v := .int .i64 2) rfl rfl rfl (by go_simp) ?_
    first | dsimp only [wpT] | refine wpT_fin ?_
    try simp only [Act.put, List.setIfInBounds_toArray, List.set_cons_succ, List.set_cons_zero]
    go_wp2_with fail
    go_ret
    exact PutPost.same HR.out M4.end_ _
  by_cases c2 : 65535 < f
  · rw [if_pos (.inr (.inl c2))]
    clear R hn hm hnc hmx
    have M0 := Mm.start no w
    go_enter Try.func13, Try.ntmps13
    have M2 := (M0.alloc (cs U8 p.l) 28 (by decide))
    try simp only [World.size_alloc] at M2
    go_upto_region 1 with fail
    obtain ⟨w1, hw1⟩ : ∃ w1, w1 = (w.alloc (.cells (cs U8 p.l) 28)) := ⟨_, rfl⟩
    rw [← hw1] at M2 ⊢
    clear hw1
    refine wp_region_lin (.op 0 (.op 1 (.op 2 (.op 3 .done)))) (by rfl) ?_
    refine wpT_valp 13 (v := .pointer (some ⟨b, 0, none⟩)) rfl rfl rfl (by go_simp) ?_
    refine wpT_callv 14 M2 (v := .bool true) rfl rfl rfl (by go_simp) (sgood_t w1 (HR.out.below M2.end_) hrm) (fun w3 M4 => ?_)
    refine wpT_valp 15 (v := .bool false) rfl rfl rfl (by go_simp) ?_
    refine wpT_valp 12 (v := .bool false) rfl rfl rfl (by go_simp) ?_
    first | dsimp only [wpT] | refine wpT_fin ?_
    try simp only [Act.put, List.setIfInBounds_toArray, List.set_cons_succ, List.set_cons_zero]
    go_upto_region 3 with fail
    refine wp_region_lin (.op 0 (.op 1 (.op 2 (.op 3 (.op 4 (.op 5 (.op 6 (.op 7 (.op 8 (.op 9 (.op 10 (.op 11 (.op 12 (.op 13 .done)))))))))))))) (by rfl) ?_
    refine wpT_valp 17 (v := .int .i64 f) rfl rfl rfl (by go_simp) ?_
    refine wpT_valp 18 (v := .bool false) rfl rfl rfl (by go_simp) ?_
    refine wpT_valp 19 (v := .bool false) rfl rfl rfl (by go_simp) ?_
    refine wpT_valp 20 (v := .int .i64 f) rfl rfl (by simp [Region.wanted, yielded, Act.put]) (by go_simp) ?_
    try simp only [Act.put, List.setIfInBounds_toArray, List.set_cons_succ, List.set_cons_zero]
    refine wpT_valp 21 (v := .bool true) rfl rfl (by simp [Region.wanted, yielded, Act.put]) (by go_simp) ?_
    refine wpT_valp 22 (v := .bool true) rfl rfl rfl (by go_simp) ?_
    refine wpT_valp 23 (v := .bool true) rfl rfl rfl (by go_simp) ?_
    refine wpT_unx 24 rfl rfl (by simp [Region.wanted, yielded, Act.put]) ?_
    try simp only [Act.put, List.setIfInBounds_toArray, List.set_cons_succ, List.set_cons_zero]
    refine wpT_unx 25 rfl rfl (by simp [Region.wanted, yielded, Act.put]) ?_
    try simp only [Act.put, List.setIfInBounds_toArray, List.set_cons_succ, List.set_cons_zero]
    refine wpT_unx 26 rfl rfl (by simp [Region.wanted, yielded, Act.put]) ?_
    try simp only [Act.put, List.setIfInBounds_toArray, List.set_cons_succ, List.set_cons_zero]
    refine wpT_unx 27 rfl rfl (by simp [Region.wanted, yielded, Act.put]) ?_
    try simp only [Act.put, List.setIfInBounds_toArray, List.set_cons_succ, List.set_cons_zero]
    refine wpT_unx 28 rfl rfl (by simp [Region.wanted, yielded, Act.put]) ?_
    try simp only [Act.put, List.setIfInBounds_toArray, List.set_cons_succ, List.set_cons_zero]
    refine wpT_valp 29 (v := .bool true) rfl rfl rfl (by go_simp) ?_
    refine wpT_valp 16 (v := .bool true) rfl rfl rfl (by go_simp) ?_
    first | dsimp only [wpT] | refine wpT_fin ?_
    try simp only [Act.put, List.setIfInBounds_toArray, List.set_cons_succ, List.set_cons_zero]
    go_upto_region 4 with fail
    refine wp_region_lin (.op 0 .done) (by rfl) ?_
    refine wpT_valp 8 (v := .int .i64 2) rfl rfl rfl (by go_simp) ?_
    first | dsimp only [wpT] | refine wpT_fin ?_
    try simp only [Act.put, List.setIfInBounds_toArray, List.set_cons_succ, List.set_cons_zero]
    go_wp2_with fail
    go_ret
    exact PutPost.same HR.out M4.end_ _
  have hd0 := i64w (n := 65535 - f) (by omega) (by omega)
  obtain ⟨d, hd⟩ : ∃ d, d = 65535 - f := ⟨_, rfl⟩
  rw [← hd] at hd0
  have HD := hid (show IntKind.i64.wrap (65535 - f) = d by rw [← hd]; exact hd0)
  by_cases c3 : 65535 - f < (n : Int)
  · rw [if_pos (.inr (.inr c3))]
    rw [← hd] at c3
    clear R hn hm hnc hmx hd hd0
    have M0 := Mm.start no w
    go_enter Try.func13, Try.ntmps13
    have M2 := (M0.alloc (cs U8 p.l) 28 (by decide))
    try simp only [World.size_alloc] at M2
    go_upto_region 1 with fail
    obtain ⟨w1, hw1⟩ : ∃ w1, w1 = (w.alloc (.cells (cs U8 p.l) 28)) := ⟨_, rfl⟩
    rw [← hw1] at M2 ⊢
    clear hw1
    refine wp_region_lin (.op 0 (.op 1 (.op 2 (.op 3 .done)))) (by rfl) ?_
    refine wpT_valp 13 (v := .pointer (some ⟨b, 0, none⟩)) rfl rfl rfl (by go_simp) ?_
    refine wpT_callv 14 M2 (v := .bool true) rfl rfl rfl (by go_simp) (sgood_t w1 (HR.out.below M2.end_) hrm) (fun w3 M4 => ?_)
    refine wpT_valp 15 (v := .bool false) rfl rfl rfl (by go_simp) ?_
    refine wpT_valp 12 (v := .bool false) rfl rfl rfl (by go_simp) ?_
    first | dsimp only [wpT] | refine wpT_fin ?_
    try simp only [Act.put, List.setIfInBounds_toArray, List.set_cons_succ, List.set_cons_zero]
    go_upto_region 3 with fail
    refine wp_region_lin (.op 0 (.op 1 (.op 2 (.op 3 (.op 4 (.op 5 (.op 6 (.op 7 (.op 8 (.op 9 (.op 10 (.op 11 (.op 12 (.op 13 .done)))))))))))))) (by rfl) ?_
    refine wpT_valp 17 (v := .int .i64 f) rfl rfl rfl (by go_simp) ?_
    refine wpT_valp 18 (v := .bool false) rfl rfl rfl (by go_simp) ?_
    refine wpT_valp 19 (v := .bool false) rfl rfl rfl (by go_simp) ?_
    refine wpT_valp 20 (v := .int .i64 f) rfl rfl (by simp [Region.wanted, yielded, Act.put]) (by go_simp) ?_
    try simp only [Act.put, List.setIfInBounds_toArray, List.set_cons_succ, List.set_cons_zero]
    refine wpT_valp 21 (v := .bool false) rfl rfl (by simp [Region.wanted, yielded, Act.put]) (by go_simp) ?_
    refine wpT_valp 22 (v := .bool false) rfl rfl rfl (by go_simp) ?_
    refine wpT_valp 23 (v := .bool false) rfl rfl rfl (by go_simp) ?_
    refine wpT_valp 24 (v := .slice ua n uc) rfl rfl (by simp [Region.wanted, yielded, Act.put]) (by go_simp) ?_
    refine wpT_valp 25 (v := .int .i64 n) rfl rfl (by simp [Region.wanted, yielded, Act.put]) (by go_simp) ?_
    try simp only [Act.put, List.setIfInBounds_toArray, List.set_cons_succ, List.set_cons_zero]
    refine wpT_valp 26 (v := .int .i64 f) rfl rfl (by simp [Region.wanted, yielded, Act.put]) (by go_simp) ?_
    refine wpT_valp 27 (v := .int .i64 d) rfl rfl (by simp [Region.wanted, yielded, Act.put]) (by have h := HD.out; go_simp) ?_
    refine wpT_valp 28 (v := .bool true) rfl rfl (by simp [Region.wanted, yielded, Act.put]) (by go_simp) ?_
    refine wpT_valp 29 (v := .bool true) rfl rfl rfl (by go_simp) ?_
    refine wpT_valp 16 (v := .bool true) rfl rfl rfl (by go_simp) ?_
    first | dsimp only [wpT] | refine wpT_fin ?_
    try simp only [Act.put, List.setIfInBounds_toArray, List.set_cons_succ, List.set_cons_zero]
    go_upto_region 4 with fail
    refine wp_region_lin (.op 0 .done) (by rfl) ?_
    refine wpT_valp 8 (v := .int .i64 2) rfl rfl rfl (by go_simp) ?_
    first | dsimp only [wpT] | refine wpT_fin ?_
    try simp only [Act.put, List.setIfInBounds_toArray, List.set_cons_succ, List.set_cons_zero]
    go_wp2_with fail
    go_ret
    exact PutPost.same HR.out M4.end_ _
  rw [if_neg (by rintro (h | h | h) <;> omega)]
  have hn9 : n ≤ 65535 := by omega
  have hm9 : m ≤ 100000 := by omega
  rw [← hd] at c3
  have hfb : (0 : Int) ≤ f ∧ f + n ≤ 65535 := by omega
  obtain ⟨res, hres⟩ : ∃ res : List Sk.En × Int, (if ∃ i : Nat, i < n ∧ Sk.find L p (f + (i : Nat)) < m then (L, 10) else if room.toNat < m + n then (L, 8) else (L ++ Sk.mk p f ks, 0)) = res := ⟨_, rfl⟩
  rw [hres]
  have HR10 := hid (show (∃ i : Nat, i < n ∧ Sk.find L p (f + (i : Nat)) < m) → res = (L, 10) from fun h => by rw [← hres, if_pos h])
  have HR8 := hid (show (¬ ∃ i : Nat, i < n ∧ Sk.find L p (f + (i : Nat)) < m) → room.toNat < m + n → res = (L, 8) from fun h h2 => by rw [← hres, if_neg h, if_pos h2])
  have HR0 := hid (show (¬ ∃ i : Nat, i < n ∧ Sk.find L p (f + (i : Nat)) < m) → ¬ room.toNat < m + n → res = (L ++ Sk.mk p f ks, 0) from fun h h2 => by rw [← hres, if_neg h, if_neg h2])
  clear hres
  have HFB := hid hfb
  have HLN := hid hn
  have HLM0 := hid hm
  clear hn hm hnc hmx hd hd0 hfb R h9
  have M0 := Mm.start no w
  go_enter Try.func13, Try.ntmps13
  have M2 := (M0.alloc (cs U8 p.l) 28 (by decide))
  try simp only [World.size_alloc] at M2
  go_upto_region 1 with fail
  obtain ⟨w1, hw1⟩ : ∃ w1, w1 = (w.alloc (.cells (cs U8 p.l) 28)) := ⟨_, rfl⟩
  rw [← hw1] at M2 ⊢
  clear hw1
  refine wp_region_lin (.op 0 (.op 1 (.op 2 (.op 3 .done)))) (by rfl) ?_
  refine wpT_valp 13 (v := .pointer (some ⟨b, 0, none⟩)) rfl rfl rfl (by go_simp) ?_
  refine wpT_callv 14 M2 (v := .bool true) rfl rfl rfl (by go_simp) (sgood_t w1 (HR.out.below M2.end_) hrm) (fun w3 M4 => ?_)
  refine wpT_valp 15 (v := .bool false) rfl rfl rfl (by go_simp) ?_
  refine wpT_valp 12 (v := .bool false) rfl rfl rfl (by go_simp) ?_
  first | dsimp only [wpT] | refine wpT_fin ?_
  try simp only [Act.put, List.setIfInBounds_toArray, List.set_cons_succ, List.set_cons_zero]
  go_upto_region 3 with fail
  refine wp_region_lin (.op 0 (.op 1 (.op 2 (.op 3 (.op 4 (.op 5 (.op 6 (.op 7 (.op 8 (.op 9 (.op 10 (.op 11 (.op 12 (.op 13 .done)))))))))))))) (by rfl) ?_
  refine wpT_valp 17 (v := .int .i64 f) rfl rfl rfl (by go_simp) ?_
  refine wpT_valp 18 (v := .bool false) rfl rfl rfl (by go_simp) ?_
  refine wpT_valp 19 (v := .bool false) rfl rfl rfl (by go_simp) ?_
  refine wpT_valp 20 (v := .int .i64 f) rfl rfl (by simp [Region.wanted, yielded, Act.put]) (by go_simp) ?_
  try simp only [Act.put, List.setIfInBounds_toArray, List.set_cons_succ, List.set_cons_zero]
  refine wpT_valp 21 (v := .bool false) rfl rfl (by simp [Region.wanted, yielded, Act.put]) (by go_simp) ?_
  refine wpT_valp 22 (v := .bool false) rfl rfl rfl (by go_simp) ?_
  refine wpT_valp 23 (v := .bool false) rfl rfl rfl (by go_simp) ?_
  refine wpT_valp 24 (v := .slice ua n uc) rfl rfl (by simp [Region.wanted, yielded, Act.put]) (by go_simp) ?_
  refine wpT_valp 25 (v := .int .i64 n) rfl rfl (by simp [Region.wanted, yielded, Act.put]) (by go_simp) ?_
  try simp only [Act.put, List.setIfInBounds_toArray, List.set_cons_succ, List.set_cons_zero]
  refine wpT_valp 26 (v := .int .i64 f) rfl rfl (by simp [Region.wanted, yielded, Act.put]) (by go_simp) ?_
  refine wpT_valp 27 (v := .int .i64 d) rfl rfl (by simp [Region.wanted, yielded, Act.put]) (by have h := HD.out; go_simp) ?_
  refine wpT_valp 28 (v := .bool false) rfl rfl (by simp [Region.wanted, yielded, Act.put]) (by go_simp) ?_
  refine wpT_valp 29 (v := .bool false) rfl rfl rfl (by go_simp) ?_
  refine wpT_valp 16 (v := .bool false) rfl rfl rfl (by go_simp) ?_
  first | dsimp only [wpT] | refine wpT_fin ?_
  try simp only [Act.put, List.setIfInBounds_toArray, List.set_cons_succ, List.set_cons_zero]
  go_upto_region 5 with fail
  refine wp_region_lin (.op 0 .done) (by rfl) ?_
  refine wpT_valp 9 (v := .slice none 0 0) rfl rfl rfl (by go_simp) ?_
  first | dsimp only [wpT] | refine wpT_fin ?_
  try simp only [Act.put, List.setIfInBounds_toArray, List.set_cons_succ, List.set_cons_zero]
  go_upto_region 6 with fail
  refine wp_region_lin (.op 0 (.op 1 (.op 2 .done))) (by rfl) ?_
  refine wpT_valp 30 (v := .slice ua n uc) rfl rfl rfl (by go_simp) ?_
  refine wpT_valp 31 (v := .int .i64 n) rfl rfl rfl (by go_simp) ?_
  refine wpT_valp 32 (v := .int .i64 0) rfl rfl rfl (by go_simp) ?_
  first | dsimp only [wpT] | refine wpT_fin ?_
  try simp only [Act.put, List.setIfInBounds_toArray, List.set_cons_succ, List.set_cons_zero]
  go_wp2_with fail
  go_loopw [9, 32] (fun u9 x wr => ∃ i : Nat, i ≤ n ∧ x = .int .i64 i ∧ (∀ j : Nat, j < i → ¬ Sk.find L p (f + j) < m) ∧ Ow wr (w.heap.size + 1) 65 u9 i (fl eE (Sk.mk p f (ks.take i))) ∧ Mm no w [(w.heap.size, cs U8 p.l)] wr) (fun _ x _ => n - (intOf x).toNat)
  case atStart => exact ⟨0, by omega, rfl, fun j hj => by omega, Ow.nil _ _ _ _, M4⟩
  case round =>
    clear M4
    obtain ⟨i, hi, rfl, hnf, OU, M⟩ := hrel
    by_cases hin : i < n
    · have hlt : (i : Int) < (n : Int) := by omega
      have hi00 : (0 : Int) ≤ (i : Int) := by omega
      obtain ⟨k, hk⟩ : ∃ k, ks[i]? = some k := ⟨_, List.getElem?_eq_getElem (by have := HLN.out; omega)⟩
      have hF := HFB.out
      have HFI := hid (show IntKind.i64.wrap (f + (i : Int)) = f + (i : Int) from i64w (by omega) (by omega))
      obtain ⟨i1, hi1⟩ : ∃ j, j = i + 1 := ⟨_, rfl⟩
      have HI1 := hid (show IntKind.i64.wrap ((i : Int) + 1) = (i1 : Int) by rw [i64w (by omega) (by omega), hi1]; rfl)
      obtain ⟨kb, ko, kc, e⟩ := sv_some eK_len (by decide) HK0.out (by have := HLN.out; omega)
      injection e with e1 e2 e3
      subst e1
      clear e2 e3
      have HEL : Hid (∀ w', Below w.heap.size w w' → exLoad Try.prog 28 (.pointer (some ⟨kb, ko + i * 32, none⟩)) w' = .ok (.value (.agg (cs U8 k.l))) w') := hid fun w' h =>
        sv_load eK_len Try.underlying28 rfl inf_key (by decide) (SV.below HK0.out h) hk (cs U8 k.l) rfl
      obtain ⟨x, hx⟩ : ∃ x : Sk.En, x = ⟨p, k, f + (i : Int)⟩ := ⟨_, rfl⟩
      have HX := hid hx
      have HTK := hid (show fl eE (Sk.mk p f (ks.take i)) ++ eE x = fl eE (Sk.mk p f (ks.take i1)) by
        rw [hi1, ki_take hk, Sk.mk_append, fl_append, fl_one, hx, List.length_take, Nat.min_eq_left (by have := HLN.out; omega)])
      have HII := hid hi1
      obtain ⟨S1, MR, hS1, hT1⟩ := M.rebase
      have HOM : Hid (∀ H' w', Mm S1 wr H' w' → Ow w' (w.heap.size + 1) 65 u9 i (fl eE (Sk.mk p f (ks.take i)))) := hid fun H' w' N => OU.fr N.fr (fun x hx h => by
        have h1 := hS1 x h
        have h2 := (OU.at_ x hx).1
        simp only [List.map_cons, List.map_nil, List.mem_cons, List.not_mem_nil, or_false] at h1
        omega)
      have hnf' := hid hnf
      by_cases hh : Sk.find L p (f + (i : Int)) < m
      · obtain ⟨fr, hfr⟩ : ∃ r : Int, r = (Sk.find L p (f + (i : Int)) : Int) := ⟨_, rfl⟩
        have HNF := hid (show fndR L p (f + (i : Int)) = fr by unfold fndR; rw [if_pos (by rw [HLM0.out]; exact hh), hfr])
        have hfr0 : (0 : Int) ≤ fr := by omega
        obtain rfl := HR10.out ⟨i, hin, hh⟩
        have M := MR
        clear hk hnf hi1 hx hF hfr hh MR hS1 OU
        go_upto_region 7 with fail
        refine wp_region_lin (.op 0 .done) (by rfl) ?_
        refine wpT_valp 33 (v := .bool true) rfl rfl rfl (by go_simp) ?_
        first | dsimp only [wpT] | refine wpT_fin ?_
        try simp only [Act.put, List.setIfInBounds_toArray, List.set_cons_succ, List.set_cons_zero]
        go_upto_region 8 with fail
        refine wp_region_lin (.op 0 (.op 1 (.op 2 (.op 3 (.op 4 (.op 5 .done)))))) (by rfl) ?_
        refine wpT_valp 34 (v := .int .i64 i) rfl rfl rfl (by go_simp) ?_
        refine wpT_valp 35 (v := .pointer (some ⟨kb, ko + i * 32, none⟩)) rfl rfl rfl (by go_simp) ?_
        refine wpT_ldy 36 (.pointer (some ⟨kb, ko + i * 32, none⟩)) (.agg (cs U8 k.l)) rfl rfl rfl (by go_simp) (HEL.out _ (hT1 _ _ M).end_) rfl ?_
        refine wpT_new (z := .agg (cs U8 (zs 32))) 11 M (by kernel_rfl) (by decide) rfl rfl rfl rfl (fun b1 w2 M3 => ?_)
        try dsimp only [Value.cells] at M3
        try simp only [Act.put, List.setIfInBounds_toArray, List.set_cons_succ, List.set_cons_zero]
        refine wpT_valp 10 (v := .int .i64 i) rfl rfl rfl (by go_simp) ?_
        refine wpT_st0 M3 0 (cs U8 k.l) inf_key rfl rfl rfl rfl (by go_simp) (by go_simp) (by simp [Ky.len, ENR_size, STR_size]) (by simp [Ky.len, ENR_size, STR_size]) (by simp [go_sem]) rfl (fun w4 M5 => ?_)
        dsimp only [List.set] at M5
        first | dsimp only [wpT] | refine wpT_fin ?_
        try simp only [Act.put, List.setIfInBounds_toArray, List.set_cons_succ, List.set_cons_zero]
        go_upto_region 9 with fail
        refine wp_region_lin (.op 0 (.op 1 (.op 2 (.op 3 (.op 4 (.op 5 (.op 6 .done))))))) (by rfl) ?_
        refine wpT_valp 37 (v := .pointer (some ⟨b, 0, none⟩)) rfl rfl rfl (by go_simp) ?_
        refine wpT_ld0 38 Try.underlying28 rfl inf_key (w.heap.size) (cs U8 p.l) rfl rfl rfl (by go_simp) (M5.row (b := w.heap.size) (c := cs U8 p.l) (by simp)) (by simp [Ky.len, ENR_size, STR_size]) rfl ?_
        refine wpT_valp 39 (v := .int .i64 f) rfl rfl rfl (by go_simp) ?_
        refine wpT_valp 40 (v := .int .i64 i) rfl rfl rfl (by go_simp) ?_
        try simp only [Act.put, List.setIfInBounds_toArray, List.set_cons_succ, List.set_cons_zero]
        refine wpT_valp 41 (v := .int .i64 (f + i)) rfl rfl rfl (by have h := HFI.out; go_simp) ?_
        refine wpT_callv 42 M5 (v := .int .i64 fr) rfl rfl rfl (by go_simp) (sfind_c w4 B b room L v (HR.out.below (hT1 _ _ M5).end_) p (f + i) fr HNF.out) (fun w6 M7 => ?_)
        refine wpT_valp 43 (v := .bool true) rfl rfl rfl (by go_simp) ?_
        first | dsimp only [wpT] | refine wpT_fin ?_
        try simp only [Act.put, List.setIfInBounds_toArray, List.set_cons_succ, List.set_cons_zero]
        go_upto_region 10 with fail
        refine wp_region_lin (.op 0 .done) (by rfl) ?_
        refine wpT_valp 8 (v := .int .i64 10) rfl rfl rfl (by go_simp) ?_
        first | dsimp only [wpT] | refine wpT_fin ?_
        try simp only [Act.put, List.setIfInBounds_toArray, List.set_cons_succ, List.set_cons_zero]
        go_wp2_with fail
        go_ret
        exact PutPost.same HR.out (hT1 _ _ M7).end_ _
      · have HNF := hid (show fndR L p (f + (i : Int)) = -1 by unfold fndR; rw [if_neg (by rw [HLM0.out]; exact hh)])
        have HHH := hid hh
        have M := MR
        clear hk hnf hi1 hx hF hh MR hS1 OU
        go_upto_region 7 with fail
        refine wp_region_lin (.op 0 .done) (by rfl) ?_
        refine wpT_valp 33 (v := .bool true) rfl rfl rfl (by go_simp) ?_
        first | dsimp only [wpT] | refine wpT_fin ?_
        try simp only [Act.put, List.setIfInBounds_toArray, List.set_cons_succ, List.set_cons_zero]
        go_upto_region 8 with fail
        refine wp_region_lin (.op 0 (.op 1 (.op 2 (.op 3 (.op 4 (.op 5 .done)))))) (by rfl) ?_
        refine wpT_valp 34 (v := .int .i64 i) rfl rfl rfl (by go_simp) ?_
        refine wpT_valp 35 (v := .pointer (some ⟨kb, ko + i * 32, none⟩)) rfl rfl rfl (by go_simp) ?_
        refine wpT_ldy 36 (.pointer (some ⟨kb, ko + i * 32, none⟩)) (.agg (cs U8 k.l)) rfl rfl rfl (by go_simp) (HEL.out _ (hT1 _ _ M).end_) rfl ?_
        refine wpT_new (z := .agg (cs U8 (zs 32))) 11 M (by kernel_rfl) (by decide) rfl rfl rfl rfl (fun b1 w2 M3 => ?_)
        try dsimp only [Value.cells] at M3
        try simp only [Act.put, List.setIfInBounds_toArray, List.set_cons_succ, List.set_cons_zero]
        refine wpT_valp 10 (v := .int .i64 i) rfl rfl rfl (by go_simp) ?_
        refine wpT_st0 M3 0 (cs U8 k.l) inf_key rfl rfl rfl rfl (by go_simp) (by go_simp) (by simp [Ky.len, ENR_size, STR_size]) (by simp [Ky.len, ENR_size, STR_size]) (by simp [go_sem]) rfl (fun w4 M5 => ?_)
        dsimp only [List.set] at M5
        first | dsimp only [wpT] | refine wpT_fin ?_
        try simp only [Act.put, List.setIfInBounds_toArray, List.set_cons_succ, List.set_cons_zero]
        go_upto_region 9 with fail
        refine wp_region_lin (.op 0 (.op 1 (.op 2 (.op 3 (.op 4 (.op 5 (.op 6 .done))))))) (by rfl) ?_
        refine wpT_valp 37 (v := .pointer (some ⟨b, 0, none⟩)) rfl rfl rfl (by go_simp) ?_
        refine wpT_ld0 38 Try.underlying28 rfl inf_key (w.heap.size) (cs U8 p.l) rfl rfl rfl (by go_simp) (M5.row (b := w.heap.size) (c := cs U8 p.l) (by simp)) (by simp [Ky.len, ENR_size, STR_size]) rfl ?_
        refine wpT_valp 39 (v := .int .i64 f) rfl rfl rfl (by go_simp) ?_
        refine wpT_valp 40 (v := .int .i64 i) rfl rfl rfl (by go_simp) ?_
        try simp only [Act.put, List.setIfInBounds_toArray, List.set_cons_succ, List.set_cons_zero]
        refine wpT_valp 41 (v := .int .i64 (f + i)) rfl rfl rfl (by have h := HFI.out; go_simp) ?_
        refine wpT_callv 42 M5 (v := .int .i64 (-1)) rfl rfl rfl (by go_simp) (sfind_c w4 B b room L v (HR.out.below (hT1 _ _ M5).end_) p (f + i) (-1) HNF.out) (fun w6 M7 => ?_)
        refine wpT_valp 43 (v := .bool false) rfl rfl rfl (by go_simp) ?_
        first | dsimp only [wpT] | refine wpT_fin ?_
        try simp only [Act.put, List.setIfInBounds_toArray, List.set_cons_succ, List.set_cons_zero]
        go_upto_region 11 with fail
        refine wp_region_lin (.op 0 (.op 1 (.op 2 (.op 3 (.op 4 (.op 5 (.op 6 (.op 7 (.op 8 (.op 9 .done)))))))))) (by rfl) ?_
        refine wpT_valp 44 (v := u9) rfl rfl rfl (by go_simp) ?_
        refine wpT_ld0 45 Try.underlying28 rfl inf_key (w.heap.size) (cs U8 p.l) rfl rfl rfl (by go_simp) (M7.row (b := w.heap.size) (c := cs U8 p.l) (by simp)) (by simp [Ky.len, ENR_size, STR_size]) rfl ?_
        refine wpT_ld0 46 Try.underlying28 rfl inf_key (b1) (cs U8 k.l) rfl rfl rfl (by go_simp) (M7.row (b := b1) (c := cs U8 k.l) (by simp)) (by simp [Ky.len, ENR_size, STR_size]) rfl ?_
        refine wpT_valp 47 (v := .int .i64 f) rfl rfl rfl (by go_simp) ?_
        try simp only [Act.put, List.setIfInBounds_toArray, List.set_cons_succ, List.set_cons_zero]
        refine wpT_valp 48 (v := .int .i64 i) rfl rfl rfl (by go_simp) ?_
        refine wpT_valp 49 (v := .int .i64 (f + i)) rfl rfl rfl (by have h := HFI.out; go_simp) ?_
        refine wpT_valL 50 (v := .agg (ENR x)) rfl rfl rfl (by have q := xb_en4 w6 HX.out; go_simp) ?_
        refine wpT_one 51 _ M7 elt_en (by decide) (ENR x) ENR_size rfl rfl rfl (by go_simp) rfl (fun gx wgx Mgx => ?_)
        have MZ := hT1 _ _ Mgx
        have hOx := HOM.out _ _ Mgx
        refine wpT_gapp 52 _ _ (MZ.sub (H' := [(w.heap.size, cs U8 p.l)]) (by simp)) elt_en (u9) (.slice (some ⟨gx, 0, none⟩) 1 1) i 1 (fl eE (Sk.mk p f (ks.take i))) (eE x) rfl rfl rfl rfl (by go_simp) hOx (by go_simp) (sv_row (Mgx.row (b := gx) (c := ENR x) (by simp)) (by unfold maxLen; decide)) (eE_len x) one_ENR (by omega) (by have := MZ.lt (b := w.heap.size) (c := cs U8 p.l) (by simp); omega) (fun x hx => by
          have h1 := (hOx.at_ x hx).1
          refine ⟨.inr (by omega), fun p hp e => ?_⟩
          (simp only [List.mem_cons, List.not_mem_nil, or_false] at hp; subst hp; dsimp only at e; omega)) (fun uy wOy Oy MOy _ _ => ?_)
        try simp only [Act.put, List.setIfInBounds_toArray, List.set_cons_succ, List.set_cons_zero]
        refine wpT_valp 9 (v := uy) rfl rfl rfl (by go_simp) ?_
        first | dsimp only [wpT] | refine wpT_fin ?_
        try simp only [Act.put, List.setIfInBounds_toArray, List.set_cons_succ, List.set_cons_zero]
        go_upto_region 12 with fail
        refine wp_region_lin (.op 0 (.op 1 .done)) (by rfl) ?_
        refine wpT_valp 53 (v := .int .i64 i1) rfl rfl rfl (by have h := HI1.out; go_simp) ?_
        refine wpT_valp 32 (v := .int .i64 i1) rfl rfl rfl (by go_simp) ?_
        first | dsimp only [wpT] | refine wpT_fin ?_
        try simp only [Act.put, List.setIfInBounds_toArray, List.set_cons_succ, List.set_cons_zero]
        go_wp2_with fail
        rw [HTK.out] at Oy
        have hii := HII.out
        rw [← hii] at Oy
        go_roundw
        case rel => exact ⟨i1, by omega, rfl, fun j hj => by
          by_cases e : j = i
          · rw [e]; exact HHH.out
          · exact hnf'.out j (by omega), Oy, MOy⟩
        case measure => simp only [intOf]; omega
    · obtain rfl : n = i := by omega
      have hnf' := hid hnf
      have hnx : ¬ ∃ j : Nat, j < n ∧ Sk.find L p (f + (j : Nat)) < m := by rintro ⟨j, hj, h⟩; exact hnf j hj h
      rw [List.take_of_length_le (by have := HLN.out; omega)] at OU
      obtain ⟨af, cf, rfl, _⟩ := OU.shape
      have OF := OU
      obtain ⟨mn, hmn⟩ : ∃ j, j = m + n := ⟨_, rfl⟩
      have HMN := hid (show IntKind.i64.wrap ((m : Int) + (n : Int)) = (mn : Int) by rw [i64w (by omega) (by omega), hmn]; rfl)
      have HR1 := HR
      obtain ⟨va, vc, hv, _⟩ := HR.out.ow.shape
      rw [HLM0.out] at hv
      subst hv
      by_cases hfull : room < (mn : Int)
      · obtain rfl := HR8.out hnx (by omega)
        clear hnf OU hmn hnx
        go_upto_region 7 with fail
        refine wp_region_lin (.op 0 .done) (by rfl) ?_
        refine wpT_valp 33 (v := .bool false) rfl rfl rfl (by go_simp) ?_
        first | dsimp only [wpT] | refine wpT_fin ?_
        try simp only [Act.put, List.setIfInBounds_toArray, List.set_cons_succ, List.set_cons_zero]
        go_upto_region 13 with fail
        refine wp_region_X (fun v => v.rowOf b = STR room (.slice va m vc)) (.yld [0, 1, 2, 3, 4, 5, 6, 7, 8, 9, 10, 11, 12] .done) (by kernel_rfl) (by kernel_rfl) (by kernel_rfl) (fun d _ _ _ _ h => by cases d <;> exact h) ?_
        have M1 := M.drewN 1
        replace OF := OF.below (below_drewN (Below.refl _ _) 1)
        change wpX _ _ _ _ _ _ (wr.drewN 1)
        obtain ⟨w2, hw2⟩ : ∃ w2, w2 = wr.drewN 1 := ⟨_, rfl⟩
        rw [← hw2] at M1 OF ⊢
        clear hw2
        refine wpX_yld ?_
        refine wpYJd_op 54 (.pointer (some ⟨b, 0, none⟩)) rfl rfl rfl (fun w1 h => by go_simp) ?_
        refine wpYJd_op 55 (.pointer (some ⟨b, 0, none⟩)) rfl rfl rfl (fun w1 h => by go_simp) ?_
        refine wpYJd_op 56 (.pointer (some ⟨b, 1, none⟩)) rfl rfl rfl (fun w1 h => by go_simp) ?_
        refine wpYJd_op 57 (.slice va m vc) rfl rfl rfl (fun w1 h => by have c0 := st_c1 (h); go_simp) ?_
        refine wpYJd_op 58 (.int .i64 m) rfl rfl rfl (fun w1 h => by go_simp) ?_
        try simp only [Act.put, List.setIfInBounds_toArray, List.set_cons_succ, List.set_cons_zero]
        refine wpYJd_op 59 (.slice af n cf) rfl rfl rfl (fun w1 h => by go_simp) ?_
        refine wpYJd_op 60 (.int .i64 n) rfl rfl rfl (fun w1 h => by go_simp) ?_
        refine wpYJd_op 61 (.int .i64 mn) rfl rfl rfl (fun w1 h => by have h := HMN.out; go_simp) ?_
        refine wpYJd_op 62 (.pointer (some ⟨b, 0, none⟩)) rfl rfl rfl (fun w1 h => by go_simp) ?_
        refine wpYJd_op 63 (.pointer (some ⟨b, 0, none⟩)) rfl rfl rfl (fun w1 h => by go_simp) ?_
        refine wpYJd_op 64 (.pointer (some ⟨b, 0, none⟩)) rfl rfl rfl (fun w1 h => by go_simp) ?_
        try simp only [Act.put, List.setIfInBounds_toArray, List.set_cons_succ, List.set_cons_zero]
        refine wpYJd_op 65 (.int .i64 room) rfl rfl rfl (fun w1 h => by have c0 := st_c0 (h); go_simp) ?_
        refine wpYJd_op 66 (.bool true) rfl rfl rfl (fun w1 h => by go_simp) ?_
        show wpX _ _ _ _ _ _ _
        try simp only [Act.put, List.setIfInBounds_toArray, List.set_cons_succ, List.set_cons_zero]
        refine ⟨(by exact (HROW.out _ M1.end_)), ?_⟩
        try simp only [Act.put, List.setIfInBounds_toArray, List.set_cons_succ, List.set_cons_zero]
        go_upto_region 14 with fail
        refine wp_region_lin (.op 0 .done) (by rfl) ?_
        refine wpT_valp 8 (v := .int .i64 8) rfl rfl rfl (by go_simp) ?_
        first | dsimp only [wpT] | refine wpT_fin ?_
        try simp only [Act.put, List.setIfInBounds_toArray, List.set_cons_succ, List.set_cons_zero]
        go_wp2_with fail
        go_ret
        exact PutPost.same HR.out M1.end_ _
      · obtain rfl := HR0.out hnx (by omega)
        have HLM := hid (show (fl eE (Sk.mk p f ks)).length = n * 65 by rw [fl_len eE_len, Sk.mk_len, HLN.out])
        have HSEP : Hid (∀ (c c' : Array Value) (x : Nat), obk (.slice va m vc) = some x → (SF b (.slice va m vc) x ∨ w.heap.size ≤ x) ∧ ∀ q ∈ [(b, c), (w.heap.size, c')], q.1 ≠ x) := hid fun c c' x hx => by
          have h1 := HR.out.lt x (.inr hx)
          refine ⟨.inl (.inr hx), fun q hq e => ?_⟩
          simp only [List.mem_cons, List.not_mem_nil, or_false] at hq
          rcases hq with rfl | rfl
          · dsimp only at e; rw [← e] at hx; exact HR.out.ne hx
          · dsimp only at e; omega
        have HFIN : Hid (∀ (wX : World) (ua2 : Value) (wA : World), w.heap.size < wX.heap.size → (∀ g, obk ua2 = some g → obk (.slice va m vc) = some g ∨ g = wX.heap.size) → Ow wA B 65 ua2 (m + n) (fl eE (L ++ Sk.mk p f ks)) →
            ∀ (S1 : Nat → Prop) (c c' : Array Value) (H : List (Nat × Array Value)) (wz : World), (∀ g, S1 g → g ∈ [(b, c), (w.heap.size, c')].map (·.1)) → Mm S1 wA H wz → Mm (SF b (.slice va m vc)) w H wz → (b, STR room ua2) ∈ H → PutPost w B b room (.slice va m vc) (L ++ Sk.mk p f ks, 0) (.returned (.int .i64 0)) wz) := by
          refine hid fun wX ua2 wA hX BA OA S1 c c' H wz hS1 M1 MZ hm => ?_
          have BA' : ∀ g, obk ua2 = some g → obk (.slice va m vc) = some g ∨ w.heap.size ≤ g := fun g hg => (BA g hg).imp id (fun e => by omega)
          refine PutPost.fin HR.out OA (by rw [List.length_append, Sk.mk_len, HLM0.out, HLN.out]) BA' hS1 (fun q hq e => ?_) M1 MZ hm 0
          simp only [List.mem_cons, List.not_mem_nil, or_false] at hq
          rcases hq with rfl | rfl
          · rcases BA _ e with h | h
            · exact HR.out.ne h
            · dsimp only at h; omega
          · rcases BA _ e with h | h
            · have := (HR.out.lt _ (.inr h)).2; dsimp only at this; omega
            · dsimp only at h; omega
        clear hnf OU hmn hnx
        go_upto_region 7 with fail
        refine wp_region_lin (.op 0 .done) (by rfl) ?_
        refine wpT_valp 33 (v := .bool false) rfl rfl rfl (by go_simp) ?_
        first | dsimp only [wpT] | refine wpT_fin ?_
        try simp only [Act.put, List.setIfInBounds_toArray, List.set_cons_succ, List.set_cons_zero]
        go_upto_region 13 with fail
        refine wp_region_X (fun v => v.rowOf b = STR room (.slice va m vc)) (.yld [0, 1, 2, 3, 4, 5, 6, 7, 8, 9, 10, 11, 12] .done) (by kernel_rfl) (by kernel_rfl) (by kernel_rfl) (fun d _ _ _ _ h => by cases d <;> exact h) ?_
        have M1 := M.drewN 1
        replace OF := OF.below (below_drewN (Below.refl _ _) 1)
        change wpX _ _ _ _ _ _ (wr.drewN 1)
        obtain ⟨w2, hw2⟩ : ∃ w2, w2 = wr.drewN 1 := ⟨_, rfl⟩
        rw [← hw2] at M1 OF ⊢
        clear hw2
        refine wpX_yld ?_
        refine wpYJd_op 54 (.pointer (some ⟨b, 0, none⟩)) rfl rfl rfl (fun w1 h => by go_simp) ?_
        refine wpYJd_op 55 (.pointer (some ⟨b, 0, none⟩)) rfl rfl rfl (fun w1 h => by go_simp) ?_
        refine wpYJd_op 56 (.pointer (some ⟨b, 1, none⟩)) rfl rfl rfl (fun w1 h => by go_simp) ?_
        refine wpYJd_op 57 (.slice va m vc) rfl rfl rfl (fun w1 h => by have c0 := st_c1 (h); go_simp) ?_
        refine wpYJd_op 58 (.int .i64 m) rfl rfl rfl (fun w1 h => by go_simp) ?_
        try simp only [Act.put, List.setIfInBounds_toArray, List.set_cons_succ, List.set_cons_zero]
        refine wpYJd_op 59 (.slice af n cf) rfl rfl rfl (fun w1 h => by go_simp) ?_
        refine wpYJd_op 60 (.int .i64 n) rfl rfl rfl (fun w1 h => by go_simp) ?_
        refine wpYJd_op 61 (.int .i64 mn) rfl rfl rfl (fun w1 h => by have h := HMN.out; go_simp) ?_
        refine wpYJd_op 62 (.pointer (some ⟨b, 0, none⟩)) rfl rfl rfl (fun w1 h => by go_simp) ?_
        refine wpYJd_op 63 (.pointer (some ⟨b, 0, none⟩)) rfl rfl rfl (fun w1 h => by go_simp) ?_
        refine wpYJd_op 64 (.pointer (some ⟨b, 0, none⟩)) rfl rfl rfl (fun w1 h => by go_simp) ?_
        try simp only [Act.put, List.setIfInBounds_toArray, List.set_cons_succ, List.set_cons_zero]
        refine wpYJd_op 65 (.int .i64 room) rfl rfl rfl (fun w1 h => by have c0 := st_c0 (h); go_simp) ?_
        refine wpYJd_op 66 (.bool false) rfl rfl rfl (fun w1 h => by go_simp) ?_
        show wpX _ _ _ _ _ _ _
        try simp only [Act.put, List.setIfInBounds_toArray, List.set_cons_succ, List.set_cons_zero]
        refine ⟨(by exact (HROW.out _ M1.end_)), ?_⟩
        try simp only [Act.put, List.setIfInBounds_toArray, List.set_cons_succ, List.set_cons_zero]
        go_upto_region 15 with fail
        obtain ⟨Tb, hTb, hrb⟩ := (HR.out.below M1.end_).row
        have MW := (M1.wide (S' := SF b (.slice va m vc)) (fun _ h => h.elim)).more hTb hrb (.inl (.inl rfl)) (fun q hq e => by
          simp only [List.mem_cons, List.not_mem_nil, or_false] at hq
          subst hq
          dsimp only at e
          have := hbw; omega)
        have HOW := hid (show Ow _ B 65 (.slice va m vc) m (fl eE L) by have h := (HR.out.below M1.end_).ow; rw [HLM0.out] at h; exact h)
        have hsz := M1.size
        have hwX := MW.lt (b := w.heap.size) (c := cs U8 p.l) (by simp)
        refine wp_region_lin (.op 0 (.op 1 (.op 2 (.op 3 (.op 4 (.op 5 (.op 6 (.op 7 (.op 8 (.op 9 .done)))))))))) (by rfl) ?_
        refine wpT_valp 67 (v := .pointer (some ⟨b, 0, none⟩)) rfl rfl rfl (by go_simp) ?_
        refine wpT_valp 68 (v := .pointer (some ⟨b, 0, none⟩)) rfl rfl rfl (by go_simp) ?_
        refine wpT_valp 69 (v := .pointer (some ⟨b, 0, none⟩)) rfl rfl rfl (by go_simp) ?_
        refine wpT_valp 70 (v := .pointer (some ⟨b, 1, none⟩)) rfl rfl rfl (by go_simp) ?_
        try simp only [Act.put, List.setIfInBounds_toArray, List.set_cons_succ, List.set_cons_zero]
        refine wpT_valp 71 (v := .slice va m vc) rfl rfl rfl (by have c0 := st_c1 (MW.row (b := b) (c := STR room (.slice va m vc)) (by simp)); go_simp) ?_
        refine wpT_valp 72 (v := .slice af n cf) rfl rfl rfl (by go_simp) ?_
        refine wpT_gapp 73 _ _ MW elt_en (.slice va m vc) (.slice af n cf) m n (fl eE L) (fl eE (Sk.mk p f ks)) rfl rfl rfl rfl (by go_simp) HOW.out (by go_simp) OF.sv HLM.out (fl_one' (fun _ => one_ENR)) (by omega) (by have := hBw; omega) (fun x hx => HSEP.out _ _ x hx) (fun ua2 wA OA MA GA BA => ?_)
        rw [← fl_append] at OA
        obtain ⟨S1, MB, hS1, hT1⟩ := MA.rebase
        have HFI := hid (HFIN.out _ ua2 wA hwX BA OA)
        obtain ⟨xa, xc, rfl, _⟩ := OA.shape
        refine wpT_valp 74 (v := .pointer (some ⟨b, 0, none⟩)) rfl rfl rfl (by go_simp) ?_
        refine wpT_valp 75 (v := .pointer (some ⟨b, 1, none⟩)) rfl rfl rfl (by go_simp) ?_
        try simp only [Act.put, List.setIfInBounds_toArray, List.set_cons_succ, List.set_cons_zero]
        refine wpT_stc MB 0 (.slice xa (m + n) xc) (STR room (.slice xa (m + n) xc)) inf_sle rfl rfl rfl rfl (by go_simp) (by go_simp) (by simp [Ky.len, ENR_size, STR_size]) (by simp [go_sem]) (st_s1 _) rfl (fun w3 M4 => ?_)
        dsimp only [List.set] at M4
        first | dsimp only [wpT] | refine wpT_fin ?_
        try simp only [Act.put, List.setIfInBounds_toArray, List.set_cons_succ, List.set_cons_zero]
        go_upto_region 16 with fail
        refine wp_region_lin (.op 0 .done) (by rfl) ?_
        refine wpT_valp 8 (v := .int .i64 0) rfl rfl rfl (by go_simp) ?_
        first | dsimp only [wpT] | refine wpT_fin ?_
        try simp only [Act.put, List.setIfInBounds_toArray, List.set_cons_succ, List.set_cons_zero]
        go_wp2_with fail
        go_ret
        exact HFI.out _ _ _ _ _ hS1 M4 (hT1 _ _ M4) (by simp)
end Go.Proofs.Ytojkcbhmhfjioaa
