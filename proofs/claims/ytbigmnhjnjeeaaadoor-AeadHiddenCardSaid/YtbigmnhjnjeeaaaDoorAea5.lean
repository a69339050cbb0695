/-
  Law 06: what is hidden hangs on the key, the nonce and the bytes alone; own work.
-/
import Derived.Test.YtbigmnhjnjeeaaaDoorAea4
set_option linter.unusedSimpArgs false
set_option linter.unusedVariables false
namespace Go.Proofs.YtbigmnhjnjeeaaaDoor
open Go.RowKit
theorem inf_b2 : (Tryd.prog.info? 37).map (·.size) = some 2 := by kernel_rfl
theorem b2_0 {w : World} {b : Nat} {u v : Value} (h : w.rowOf b = #[u, v]) : w.cell? ⟨b, 0, none⟩ = some u := by rw [cell_rowOf, h]; rfl
theorem b2_1 {w : World} {b : Nat} {u v : Value} (h : w.rowOf b = #[u, v]) : w.cell? ⟨b, 1, none⟩ = some v := by rw [cell_rowOf, h]; rfl
theorem BS.capGe {w : World} {a : Option Addr} {n c : Nat} {l : List (BitVec 8)} (h : BS w (.slice a n c) l) : n ≤ c := by
  obtain ⟨a', c', e, h1, _⟩ := h
  injection e with _ e1 e2
  subst e2; omega
theorem BS.headx {w : World} {a : Option Addr} {n c : Nat} {l x : List (BitVec 8)} (h : BS w (.slice a n c) l) (k : Nat) (hk : k ≤ l.length) (hx : l.take k = x) : BS w (.slice a k c) x := by
  obtain ⟨a', c', e, h1, h2⟩ := h
  injection e with e0 e1 e2
  subst hx; subst e1
  exact BS.head (cap := c) ⟨a', c', by rw [e0, e2], h1, h2⟩ k c hk (by subst e2; omega) (Nat.le_refl _)
attribute [local irreducible] Ad.sealed Ad.tag Ad.hid
set_option maxRecDepth 100000 in
set_option maxHeartbeats 8000000 in
theorem AeadHidden_w (w : World) (k o p b : List (BitVec 8)) (vo vp vb : Value) (hT : KT w ∧ 0 < w.heap.size) (hk : k.length = 32) (hvo : BS w vo o) (hvp : BS w vp p) (hvb : BS w vb b) :
    Calls Tryd.prog 10 #[.agg (cs U8 k), .agg #[vo, vp], vb] w fun e w' => e = .returned (.bool true) ∧ Below w.heap.size w w' := by
  have hmo : o.length ≤ 9223372036854775807 := hvo.len
  have hmb : b.length ≤ 9223372036854775807 := hvb.len
  have HT := hid hT
  have HVO := hid hvo
  obtain ⟨AO, co, rfl, -⟩ := hvo.shape
  have hmp : p.length ≤ 9223372036854775807 := hvp.len
  have HVB := hid hvb
  have HVP := hid hvp
  obtain ⟨AB, cb, rfl, -⟩ := hvb.shape
  obtain ⟨AP, cp, rfl, -⟩ := hvp.shape
  clear hT hvo hvb hvp
  have hn : True := trivial
  by_cases h1 : 1500 < o.length
  · have h1i : (1500 : Int) < (o.length : Int) := by omega
    have M0 := Mm.start no w
    go_enter Tryd.func10, Tryd.ntmps10
    have M2 := ((M0.alloc (cs U8 k) 23 (by decide)).alloc (#[.slice AO o.length co, .slice AP p.length cp]) 37 (by decide))
    try simp only [World.size_alloc] at M2
    go_upto_region 1 with fail
    obtain ⟨w1, hw1⟩ : ∃ w1, w1 = ((w.alloc (.cells (cs U8 k) 23)).alloc (.cells (#[.slice AO o.length co, .slice AP p.length cp]) 37)) := ⟨_, rfl⟩
    rw [← hw1] at M2 ⊢
    clear hw1
    refine wp_region_lin (.op 0 (.op 1 .done)) (by rfl) ?_
    refine wpT_callv 12 M2 (v := .bool true) rfl rfl rfl (by go_simp) (alive6_v HT.out M2.end_) (fun w3 M4 => ?_)
    refine wpT_valp 13 (v := .bool false) rfl rfl rfl (by go_simp) ?_
    dsimp only [wpT]
    try simp only [Act.put, List.setIfInBounds_toArray, List.set_cons_succ, List.set_cons_zero]
    go_upto_region 3 with fail
    refine wp_region_lin (.op 0 (.op 1 (.op 2 (.op 3 (.op 4 (.op 5 (.op 6 (.op 7 (.op 8 (.op 9 (.op 10 (.op 11 (.op 12 (.op 13 (.op 14 .done))))))))))))))) (by rfl) ?_
    refine wpT_valp 14 (v := .pointer (some ⟨w.heap.size + 1, 0, none⟩)) rfl rfl rfl (by go_simp) ?_
    refine wpT_valp 15 (v := .slice AO o.length co) rfl rfl rfl (by have c0 := b2_0 (M4.row (b := w.heap.size + 1) (c := #[.slice AO o.length co, .slice AP p.length cp]) (by simp)); go_simp) ?_
    refine wpT_valp 16 (v := .int .i64 o.length) rfl rfl rfl (by go_simp) ?_
    refine wpT_valp 17 (v := .bool true) rfl rfl rfl (by go_simp) ?_
    try simp only [Act.put, List.setIfInBounds_toArray, List.set_cons_succ, List.set_cons_zero]
    refine wpT_valp 18 (v := .bool true) rfl rfl rfl (by go_simp) ?_
    refine wpT_unw 19 rfl rfl (by simp [Region.wanted, yielded, Act.put]) ?_
    refine wpT_unw 20 rfl rfl (by simp [Region.wanted, yielded, Act.put]) ?_
    refine wpT_unw 21 rfl rfl (by simp [Region.wanted, yielded, Act.put]) ?_
    refine wpT_unw 22 rfl rfl (by simp [Region.wanted, yielded, Act.put]) ?_
    try simp only [Act.put, List.setIfInBounds_toArray, List.set_cons_succ, List.set_cons_zero]
    refine wpT_valp 23 (v := .bool true) rfl rfl rfl (by go_simp) ?_
    refine wpT_valp 24 (v := .bool true) rfl rfl rfl (by go_simp) ?_
    refine wpT_unw 25 rfl rfl (by simp [Region.wanted, yielded, Act.put]) ?_
    refine wpT_unw 26 rfl rfl (by simp [Region.wanted, yielded, Act.put]) ?_
    refine wpT_unw 27 rfl rfl (by simp [Region.wanted, yielded, Act.put]) ?_
    try simp only [Act.put, List.setIfInBounds_toArray, List.set_cons_succ, List.set_cons_zero]
    refine wpT_valp 28 (v := .bool true) rfl rfl rfl (by go_simp) ?_
    dsimp only [wpT]
    try simp only [Act.put, List.setIfInBounds_toArray, List.set_cons_succ, List.set_cons_zero]
    go_upto_region 4 with fail
    refine wp_region_lin (.op 0 .done) (by rfl) ?_
    refine wpT_valp 6 (v := .bool true) rfl rfl rfl (by go_simp) ?_
    dsimp only [wpT]
    try simp only [Act.put, List.setIfInBounds_toArray, List.set_cons_succ, List.set_cons_zero]
    go_wp2_with fail
    go_ret
    exact ⟨rfl, M4.end_⟩
  have h1i : ¬ (1500 : Int) < (o.length : Int) := by omega
  by_cases h2 : 1500 < p.length
  · have h2i : (1500 : Int) < (p.length : Int) := by omega
    have M0 := Mm.start no w
    go_enter Tryd.func10, Tryd.ntmps10
    have M2 := ((M0.alloc (cs U8 k) 23 (by decide)).alloc (#[.slice AO o.length co, .slice AP p.length cp]) 37 (by decide))
    try simp only [World.size_alloc] at M2
    go_upto_region 1 with fail
    obtain ⟨w1, hw1⟩ : ∃ w1, w1 = ((w.alloc (.cells (cs U8 k) 23)).alloc (.cells (#[.slice AO o.length co, .slice AP p.length cp]) 37)) := ⟨_, rfl⟩
    rw [← hw1] at M2 ⊢
    clear hw1
    refine wp_region_lin (.op 0 (.op 1 .done)) (by rfl) ?_
    refine wpT_callv 12 M2 (v := .bool true) rfl rfl rfl (by go_simp) (alive6_v HT.out M2.end_) (fun w3 M4 => ?_)
    refine wpT_valp 13 (v := .bool false) rfl rfl rfl (by go_simp) ?_
    dsimp only [wpT]
    try simp only [Act.put, List.setIfInBounds_toArray, List.set_cons_succ, List.set_cons_zero]
    go_upto_region 3 with fail
    refine wp_region_lin (.op 0 (.op 1 (.op 2 (.op 3 (.op 4 (.op 5 (.op 6 (.op 7 (.op 8 (.op 9 (.op 10 (.op 11 (.op 12 (.op 13 (.op 14 .done))))))))))))))) (by rfl) ?_
    refine wpT_valp 14 (v := .pointer (some ⟨w.heap.size + 1, 0, none⟩)) rfl rfl rfl (by go_simp) ?_
    refine wpT_valp 15 (v := .slice AO o.length co) rfl rfl rfl (by have c0 := b2_0 (M4.row (b := w.heap.size + 1) (c := #[.slice AO o.length co, .slice AP p.length cp]) (by simp)); go_simp) ?_
    refine wpT_valp 16 (v := .int .i64 o.length) rfl rfl rfl (by go_simp) ?_
    refine wpT_valp 17 (v := .bool false) rfl rfl rfl (by go_simp) ?_
    try simp only [Act.put, List.setIfInBounds_toArray, List.set_cons_succ, List.set_cons_zero]
    refine wpT_valp 18 (v := .bool false) rfl rfl rfl (by go_simp) ?_
    refine wpT_valp 19 (v := .pointer (some ⟨w.heap.size + 1, 1, none⟩)) rfl rfl (by simp [Region.wanted, yielded, Act.put]) (by go_simp) ?_
    refine wpT_valp 20 (v := .slice AP p.length cp) rfl rfl (by simp [Region.wanted, yielded, Act.put]) (by have c0 := b2_1 (M4.row (b := w.heap.size + 1) (c := #[.slice AO o.length co, .slice AP p.length cp]) (by simp)); go_simp) ?_
    refine wpT_valp 21 (v := .int .i64 p.length) rfl rfl (by simp [Region.wanted, yielded, Act.put]) (by go_simp) ?_
    refine wpT_valp 22 (v := .bool true) rfl rfl (by simp [Region.wanted, yielded, Act.put]) (by go_simp) ?_
    try simp only [Act.put, List.setIfInBounds_toArray, List.set_cons_succ, List.set_cons_zero]
    refine wpT_valp 23 (v := .bool true) rfl rfl rfl (by go_simp) ?_
    refine wpT_valp 24 (v := .bool true) rfl rfl rfl (by go_simp) ?_
    refine wpT_unw 25 rfl rfl (by simp [Region.wanted, yielded, Act.put]) ?_
    refine wpT_unw 26 rfl rfl (by simp [Region.wanted, yielded, Act.put]) ?_
    refine wpT_unw 27 rfl rfl (by simp [Region.wanted, yielded, Act.put]) ?_
    try simp only [Act.put, List.setIfInBounds_toArray, List.set_cons_succ, List.set_cons_zero]
    refine wpT_valp 28 (v := .bool true) rfl rfl rfl (by go_simp) ?_
    dsimp only [wpT]
    try simp only [Act.put, List.setIfInBounds_toArray, List.set_cons_succ, List.set_cons_zero]
    go_upto_region 4 with fail
    refine wp_region_lin (.op 0 .done) (by rfl) ?_
    refine wpT_valp 6 (v := .bool true) rfl rfl rfl (by go_simp) ?_
    dsimp only [wpT]
    try simp only [Act.put, List.setIfInBounds_toArray, List.set_cons_succ, List.set_cons_zero]
    go_wp2_with fail
    go_ret
    exact ⟨rfl, M4.end_⟩
  have h2i : ¬ (1500 : Int) < (p.length : Int) := by omega
  by_cases h3 : 1500 < b.length
  · have h3i : (1500 : Int) < (b.length : Int) := by omega
    have M0 := Mm.start no w
    go_enter Tryd.func10, Tryd.ntmps10
    have M2 := ((M0.alloc (cs U8 k) 23 (by decide)).alloc (#[.slice AO o.length co, .slice AP p.length cp]) 37 (by decide))
    try simp only [World.size_alloc] at M2
    go_upto_region 1 with fail
    obtain ⟨w1, hw1⟩ : ∃ w1, w1 = ((w.alloc (.cells (cs U8 k) 23)).alloc (.cells (#[.slice AO o.length co, .slice AP p.length cp]) 37)) := ⟨_, rfl⟩
    rw [← hw1] at M2 ⊢
    clear hw1
    refine wp_region_lin (.op 0 (.op 1 .done)) (by rfl) ?_
    refine wpT_callv 12 M2 (v := .bool true) rfl rfl rfl (by go_simp) (alive6_v HT.out M2.end_) (fun w3 M4 => ?_)
    refine wpT_valp 13 (v := .bool false) rfl rfl rfl (by go_simp) ?_
    dsimp only [wpT]
    try simp only [Act.put, List.setIfInBounds_toArray, List.set_cons_succ, List.set_cons_zero]
    go_upto_region 3 with fail
    refine wp_region_lin (.op 0 (.op 1 (.op 2 (.op 3 (.op 4 (.op 5 (.op 6 (.op 7 (.op 8 (.op 9 (.op 10 (.op 11 (.op 12 (.op 13 (.op 14 .done))))))))))))))) (by rfl) ?_
    refine wpT_valp 14 (v := .pointer (some ⟨w.heap.size + 1, 0, none⟩)) rfl rfl rfl (by go_simp) ?_
    refine wpT_valp 15 (v := .slice AO o.length co) rfl rfl rfl (by have c0 := b2_0 (M4.row (b := w.heap.size + 1) (c := #[.slice AO o.length co, .slice AP p.length cp]) (by simp)); go_simp) ?_
    refine wpT_valp 16 (v := .int .i64 o.length) rfl rfl rfl (by go_simp) ?_
    refine wpT_valp 17 (v := .bool false) rfl rfl rfl (by go_simp) ?_
    try simp only [Act.put, List.setIfInBounds_toArray, List.set_cons_succ, List.set_cons_zero]
    refine wpT_valp 18 (v := .bool false) rfl rfl rfl (by go_simp) ?_
    refine wpT_valp 19 (v := .pointer (some ⟨w.heap.size + 1, 1, none⟩)) rfl rfl (by simp [Region.wanted, yielded, Act.put]) (by go_simp) ?_
    refine wpT_valp 20 (v := .slice AP p.length cp) rfl rfl (by simp [Region.wanted, yielded, Act.put]) (by have c0 := b2_1 (M4.row (b := w.heap.size + 1) (c := #[.slice AO o.length co, .slice AP p.length cp]) (by simp)); go_simp) ?_
    refine wpT_valp 21 (v := .int .i64 p.length) rfl rfl (by simp [Region.wanted, yielded, Act.put]) (by go_simp) ?_
    refine wpT_valp 22 (v := .bool false) rfl rfl (by simp [Region.wanted, yielded, Act.put]) (by go_simp) ?_
    try simp only [Act.put, List.setIfInBounds_toArray, List.set_cons_succ, List.set_cons_zero]
    refine wpT_valp 23 (v := .bool false) rfl rfl rfl (by go_simp) ?_
    refine wpT_valp 24 (v := .bool false) rfl rfl rfl (by go_simp) ?_
    refine wpT_valp 25 (v := .slice AB b.length cb) rfl rfl (by simp [Region.wanted, yielded, Act.put]) (by go_simp) ?_
    refine wpT_valp 26 (v := .int .i64 b.length) rfl rfl (by simp [Region.wanted, yielded, Act.put]) (by go_simp) ?_
    refine wpT_valp 27 (v := .bool true) rfl rfl (by simp [Region.wanted, yielded, Act.put]) (by go_simp) ?_
    try simp only [Act.put, List.setIfInBounds_toArray, List.set_cons_succ, List.set_cons_zero]
    refine wpT_valp 28 (v := .bool true) rfl rfl rfl (by go_simp) ?_
    dsimp only [wpT]
    try simp only [Act.put, List.setIfInBounds_toArray, List.set_cons_succ, List.set_cons_zero]
    go_upto_region 4 with fail
    refine wp_region_lin (.op 0 .done) (by rfl) ?_
    refine wpT_valp 6 (v := .bool true) rfl rfl rfl (by go_simp) ?_
    dsimp only [wpT]
    try simp only [Act.put, List.setIfInBounds_toArray, List.set_cons_succ, List.set_cons_zero]
    go_wp2_with fail
    go_ret
    exact ⟨rfl, M4.end_⟩
  have h3i : ¬ (1500 : Int) < (b.length : Int) := by omega
  clear hn
  obtain ⟨n, en⟩ : ∃ n, n = k.drop 20 := ⟨_, rfl⟩
  have hn : n.length = 12 := by rw [en]; simp; omega
  have HNK := hid (show (cs U8 k).extract 20 (20 + 12) = cs U8 n by rw [cs_extract, en]; congr 1; rw [List.take_of_length_le (by omega)])
  obtain ⟨s, es⟩ : ∃ s, s = Ad.sealed k n o b := ⟨_, rfl⟩
  obtain ⟨s2, es2⟩ : ∃ s, s = Ad.sealed k n p b := ⟨_, rfl⟩
  obtain ⟨x, ex⟩ : ∃ x, x = Ad.hid k n b := ⟨_, rfl⟩
  obtain ⟨L16, hL16⟩ : ∃ L16, L16 = b.length + 16 := ⟨_, rfl⟩
  have hsL : s.length = L16 := by rw [es, sealed_len, hL16]
  have hsL2 : s2.length = L16 := by rw [es2, sealed_len, hL16]
  have HX1 := hid (show s.take b.length = x by rw [es, sealed_take, ex])
  have HX2 := hid (show s2.take b.length = x by rw [es2, sealed_take, ex])
  have HL16 := hid (show IntKind.i64.wrap ((b.length : Int) + 16) = (L16 : Int) by rw [i64m _ (by omega) (by omega)]; omega)
  have hbL : b.length ≤ L16 := by omega
  have hL3 : L16 ≤ 1516 := by omega
  have HS := hid es
  have HS2 := hid es2
  have T0 := back0 (S := no) (w0 := w)
  clear es es2 ex en hL16
  have M0 := Mm.start no w
  go_enter Tryd.func10, Tryd.ntmps10
  have M2 := ((M0.alloc (cs U8 k) 23 (by decide)).alloc (#[.slice AO o.length co, .slice AP p.length cp]) 37 (by decide))
  try simp only [World.size_alloc] at M2
  go_upto_region 1 with fail
  obtain ⟨w1, hw1⟩ : ∃ w1, w1 = ((w.alloc (.cells (cs U8 k) 23)).alloc (.cells (#[.slice AO o.length co, .slice AP p.length cp]) 37)) := ⟨_, rfl⟩
  rw [← hw1] at M2 ⊢
  clear hw1
  refine wp_region_lin (.op 0 (.op 1 .done)) (by rfl) ?_
  refine wpT_callv 12 M2 (v := .bool true) rfl rfl rfl (by go_simp) (alive6_v HT.out M2.end_) (fun w3 M4 => ?_)
  refine wpT_valp 13 (v := .bool false) rfl rfl rfl (by go_simp) ?_
  dsimp only [wpT]
  try simp only [Act.put, List.setIfInBounds_toArray, List.set_cons_succ, List.set_cons_zero]
  go_upto_region 3 with fail
  refine wp_region_lin (.op 0 (.op 1 (.op 2 (.op 3 (.op 4 (.op 5 (.op 6 (.op 7 (.op 8 (.op 9 (.op 10 (.op 11 (.op 12 (.op 13 (.op 14 .done))))))))))))))) (by rfl) ?_
  refine wpT_valp 14 (v := .pointer (some ⟨w.heap.size + 1, 0, none⟩)) rfl rfl rfl (by go_simp) ?_
  refine wpT_valp 15 (v := .slice AO o.length co) rfl rfl rfl (by have c0 := b2_0 (M4.row (b := w.heap.size + 1) (c := #[.slice AO o.length co, .slice AP p.length cp]) (by simp)); go_simp) ?_
  refine wpT_valp 16 (v := .int .i64 o.length) rfl rfl rfl (by go_simp) ?_
  refine wpT_valp 17 (v := .bool false) rfl rfl rfl (by go_simp) ?_
  try simp only [Act.put, List.setIfInBounds_toArray, List.set_cons_succ, List.set_cons_zero]
  refine wpT_valp 18 (v := .bool false) rfl rfl rfl (by go_simp) ?_
  refine wpT_valp 19 (v := .pointer (some ⟨w.heap.size + 1, 1, none⟩)) rfl rfl (by simp [Region.wanted, yielded, Act.put]) (by go_simp) ?_
  refine wpT_valp 20 (v := .slice AP p.length cp) rfl rfl (by simp [Region.wanted, yielded, Act.put]) (by have c0 := b2_1 (M4.row (b := w.heap.size + 1) (c := #[.slice AO o.length co, .slice AP p.length cp]) (by simp)); go_simp) ?_
  refine wpT_valp 21 (v := .int .i64 p.length) rfl rfl (by simp [Region.wanted, yielded, Act.put]) (by go_simp) ?_
  refine wpT_valp 22 (v := .bool false) rfl rfl (by simp [Region.wanted, yielded, Act.put]) (by go_simp) ?_
  try simp only [Act.put, List.setIfInBounds_toArray, List.set_cons_succ, List.set_cons_zero]
  refine wpT_valp 23 (v := .bool false) rfl rfl rfl (by go_simp) ?_
  refine wpT_valp 24 (v := .bool false) rfl rfl rfl (by go_simp) ?_
  refine wpT_valp 25 (v := .slice AB b.length cb) rfl rfl (by simp [Region.wanted, yielded, Act.put]) (by go_simp) ?_
  refine wpT_valp 26 (v := .int .i64 b.length) rfl rfl (by simp [Region.wanted, yielded, Act.put]) (by go_simp) ?_
  refine wpT_valp 27 (v := .bool false) rfl rfl (by simp [Region.wanted, yielded, Act.put]) (by go_simp) ?_
  try simp only [Act.put, List.setIfInBounds_toArray, List.set_cons_succ, List.set_cons_zero]
  refine wpT_valp 28 (v := .bool false) rfl rfl rfl (by go_simp) ?_
  dsimp only [wpT]
  try simp only [Act.put, List.setIfInBounds_toArray, List.set_cons_succ, List.set_cons_zero]
  go_upto_region 5 with fail
  refine wp_region_lin (.op 0 (.op 1 (.op 2 (.op 3 (.op 4 .done))))) (by rfl) ?_
  refine wpT_valp 29 (v := .slice (some ⟨w.heap.size, 20, none⟩) 12 12) rfl rfl rfl (by go_simp) ?_
  refine wpT_valp 30 (v := .pointer (some ⟨w.heap.size, 20, none⟩)) rfl rfl rfl (by go_simp) ?_
  refine wpT_ldm 31 Tryd.underlying29 rfl inf_nonce (w.heap.size) 20 (cs U8 k) (cs U8 n) rfl rfl rfl (by go_simp) (M4.row (by simp)) (by simp [hk]) HNK.out rfl ?_
  refine wpT_new (z := .agg (cs U8 (zs 12))) 7 M4 (by kernel_rfl) (by decide) rfl rfl rfl rfl (fun b5 w6 M7 => ?_)
  try dsimp only [Value.cells] at M7
  try simp only [Act.put, List.setIfInBounds_toArray, List.set_cons_succ, List.set_cons_zero]
  refine wpT_st0 M7 0 (cs U8 n) inf_nonce rfl rfl rfl rfl (by go_simp) (by go_simp) (by simp [hk, hn]) (by simp [hk, hn]) (by simp [go_sem]) rfl (fun w8 M9 => ?_)
  dsimp only [List.set] at M9
  dsimp only [wpT]
  try simp only [Act.put, List.setIfInBounds_toArray, List.set_cons_succ, List.set_cons_zero]
  go_upto_region 6 with fail
  refine wp_region_lin (.op 0 (.op 1 (.op 2 (.op 3 (.op 4 (.op 5 (.op 6 (.op 7 (.op 8 (.op 9 (.op 10 .done))))))))))) (by rfl) ?_
  refine wpT_ld0 33 Tryd.underlying23 rfl inf_key (w.heap.size) (cs U8 k) rfl rfl rfl (by go_simp) (M9.row (by simp)) (by simp [hk, hn]) rfl ?_
  refine wpT_ld0 34 Tryd.underlying29 rfl inf_nonce (b5) (cs U8 n) rfl rfl rfl (by go_simp) (M9.row (by simp)) (by simp [hk, hn]) rfl ?_
  refine wpT_valp 35 (v := .pointer (some ⟨w.heap.size + 1, 0, none⟩)) rfl rfl rfl (by go_simp) ?_
  refine wpT_valp 36 (v := .slice AO o.length co) rfl rfl rfl (by have c0 := b2_0 (M9.row (b := w.heap.size + 1) (c := #[.slice AO o.length co, .slice AP p.length cp]) (by simp)); go_simp) ?_
  try simp only [Act.put, List.setIfInBounds_toArray, List.set_cons_succ, List.set_cons_zero]
  refine wpT_valp 37 (v := .slice AB b.length cb) rfl rfl rfl (by go_simp) ?_
  refine wpT_callN 38 M9 (l := s) (fun v => .tuple #[v, .int .i64 0]) rfl rfl rfl (by go_simp) (seal_v HS.out HT.out (T0.out _ _ M9).end_ hk hn (SV.below HVO.out (T0.out _ _ M9).end_) (SV.below HVB.out (T0.out _ _ M9).end_) (by omega) (by omega)) (fun v10 w11 S13 M12 T14 K15 => ?_)
  replace T0 := backT T0 T14
  obtain ⟨A16, c17, rfl, -⟩ := (K15.out _ _ M12).1.shape' L16 hsL
  refine wpT_valp 32 (v := .tuple #[.slice A16 L16 c17, .int .i64 0]) rfl rfl rfl (by go_simp) ?_
  refine wpT_valp 39 (v := .slice A16 L16 c17) rfl rfl rfl (by go_simp) ?_
  refine wpT_valp 40 (v := .int .i64 0) rfl rfl rfl (by go_simp) ?_
  try simp only [Act.put, List.setIfInBounds_toArray, List.set_cons_succ, List.set_cons_zero]
  refine wpT_valp 8 (v := .slice A16 L16 c17) rfl rfl rfl (by go_simp) ?_
  refine wpT_valp 9 (v := .int .i64 0) rfl rfl rfl (by go_simp) ?_
  dsimp only [wpT]
  try simp only [Act.put, List.setIfInBounds_toArray, List.set_cons_succ, List.set_cons_zero]
  go_upto_region 7 with fail
  refine wp_region_lin (.op 0 (.op 1 (.op 2 (.op 3 (.op 4 (.op 5 (.op 6 (.op 7 (.op 8 (.op 9 (.op 10 .done))))))))))) (by rfl) ?_
  refine wpT_ld0 42 Tryd.underlying23 rfl inf_key (w.heap.size) (cs U8 k) rfl rfl rfl (by go_simp) (M12.row (by simp)) (by simp [hk, hn]) rfl ?_
  refine wpT_ld0 43 Tryd.underlying29 rfl inf_nonce (b5) (cs U8 n) rfl rfl rfl (by go_simp) (M12.row (by simp)) (by simp [hk, hn]) rfl ?_
  refine wpT_valp 44 (v := .pointer (some ⟨w.heap.size + 1, 1, none⟩)) rfl rfl rfl (by go_simp) ?_
  refine wpT_valp 45 (v := .slice AP p.length cp) rfl rfl rfl (by have c0 := b2_1 (M12.row (b := w.heap.size + 1) (c := #[.slice AO o.length co, .slice AP p.length cp]) (by simp)); go_simp) ?_
  try simp only [Act.put, List.setIfInBounds_toArray, List.set_cons_succ, List.set_cons_zero]
  refine wpT_valp 46 (v := .slice AB b.length cb) rfl rfl rfl (by go_simp) ?_
  refine wpT_callN 47 M12 (l := s2) (fun v => .tuple #[v, .int .i64 0]) rfl rfl rfl (by go_simp) (seal_v HS2.out HT.out (T0.out _ _ M12).end_ hk hn (SV.below HVP.out (T0.out _ _ M12).end_) (SV.below HVB.out (T0.out _ _ M12).end_) (by omega) (by omega)) (fun v18 w19 S21 M20 T22 K23 => ?_)
  replace K15 := backT K15 T22
  replace T0 := backT T0 T22
  obtain ⟨A24, c25, rfl, -⟩ := (K23.out _ _ M20).1.shape' L16 hsL2
  refine wpT_valp 41 (v := .tuple #[.slice A24 L16 c25, .int .i64 0]) rfl rfl rfl (by go_simp) ?_
  refine wpT_valp 48 (v := .slice A24 L16 c25) rfl rfl rfl (by go_simp) ?_
  refine wpT_valp 49 (v := .int .i64 0) rfl rfl rfl (by go_simp) ?_
  try simp only [Act.put, List.setIfInBounds_toArray, List.set_cons_succ, List.set_cons_zero]
  refine wpT_valp 10 (v := .slice A24 L16 c25) rfl rfl rfl (by go_simp) ?_
  refine wpT_valp 11 (v := .int .i64 0) rfl rfl rfl (by go_simp) ?_
  dsimp only [wpT]
  try simp only [Act.put, List.setIfInBounds_toArray, List.set_cons_succ, List.set_cons_zero]
  have hc1 := (K15.out _ _ M20).1.capGe
  have hc2 := (K23.out _ _ M20).1.capGe
  have hc3 := Nat.le_trans hbL hc1
  have hc4 := Nat.le_trans hbL hc2
  go_upto_region 8 with fail
  refine wp_region_seq 35 [50, 51, 52, 53, 54, 55, 56, 57, 58, 59, 60, 61, 62, 63, 64, 65, 66, 67, 68, 69, 70, 71, 72, 73, 74, 75, 76, 77, 78, 79, 80, 81, 82, 83, 6] [] [] [] (.done) (Mm S21 w19 _) (by kernel_rfl) (by kernel_rfl) (by kernel_rfl) (fun d _ _ _ _ h => by cases d <;> exact h) (by rfl) M20.size (fun _ _ h k => h.sf k) M20 ?_
  simp only [List.take_succ_cons, List.take_zero]
  refine SeqA.pure (.int .i64 0) (fun w' => by go_simp) rfl rfl ?_
  refine SeqA.pure (.bool true) (fun w' => by go_simp) rfl rfl ?_
  refine SeqA.pure (.bool true) (fun w' => by go_simp) rfl rfl ?_
  refine SeqA.pure (.int .i64 0) (fun w' => by go_simp) rfl (by simp [Region.wanted, yielded, Act.put]) ?_
  refine SeqA.pure (.bool true) (fun w' => by go_simp) rfl (by simp [Region.wanted, yielded, Act.put]) ?_
  simp only [Act.put, List.setIfInBounds_toArray, List.set_cons_succ, List.set_cons_zero]
  refine SeqA.pure (.bool true) (fun w' => by go_simp) rfl rfl ?_
  refine SeqA.pure (.bool true) (fun w' => by go_simp) rfl rfl ?_
  refine SeqA.pure (.slice A16 L16 c17) (fun w' => by go_simp) rfl (by simp [Region.wanted, yielded, Act.put]) ?_
  refine SeqA.pure (.int .i64 L16) (fun w' => by go_simp) rfl (by simp [Region.wanted, yielded, Act.put]) ?_
  refine SeqA.pure (.slice AB b.length cb) (fun w' => by go_simp) rfl (by simp [Region.wanted, yielded, Act.put]) ?_
  refine SeqA.pure (.int .i64 b.length) (fun w' => by go_simp) rfl (by simp [Region.wanted, yielded, Act.put]) ?_
  simp only [Act.put, List.setIfInBounds_toArray, List.set_cons_succ, List.set_cons_zero]
  refine SeqA.pure (.int .i64 L16) (fun w' => by have h := HL16.out; go_simp) rfl (by simp [Region.wanted, yielded, Act.put]) ?_
  refine SeqA.pure (.bool true) (fun w' => by go_simp) rfl (by simp [Region.wanted, yielded, Act.put]) ?_
  refine SeqA.pure (.bool true) (fun w' => by go_simp) rfl rfl ?_
  refine SeqA.pure (.bool true) (fun w' => by go_simp) rfl rfl ?_
  refine SeqA.pure (.slice A24 L16 c25) (fun w' => by go_simp) rfl (by simp [Region.wanted, yielded, Act.put]) ?_
  refine SeqA.pure (.int .i64 L16) (fun w' => by go_simp) rfl (by simp [Region.wanted, yielded, Act.put]) ?_
  simp only [Act.put, List.setIfInBounds_toArray, List.set_cons_succ, List.set_cons_zero]
  refine SeqA.pure (.slice A16 L16 c17) (fun w' => by go_simp) rfl (by simp [Region.wanted, yielded, Act.put]) ?_
  refine SeqA.pure (.int .i64 L16) (fun w' => by go_simp) rfl (by simp [Region.wanted, yielded, Act.put]) ?_
  refine SeqA.pure (.bool true) (fun w' => by go_simp) rfl (by simp [Region.wanted, yielded, Act.put]) ?_
  refine SeqA.pure (.bool true) (fun w' => by go_simp) rfl rfl ?_
  refine SeqA.pure (.bool true) (fun w' => by go_simp) rfl rfl ?_
  refine SeqA.pure (.slice A16 L16 c17) (fun w' => by go_simp) rfl (by simp [Region.wanted, yielded, Act.put]) ?_
  simp only [Act.put, List.setIfInBounds_toArray, List.set_cons_succ, List.set_cons_zero]
  refine SeqA.pure (.slice AB b.length cb) (fun w' => by go_simp) rfl (by simp [Region.wanted, yielded, Act.put]) ?_
  refine SeqA.pure (.int .i64 b.length) (fun w' => by go_simp) rfl (by simp [Region.wanted, yielded, Act.put]) ?_
  refine SeqA.pure (.slice A16 b.length c17) (fun w' => by go_simp) rfl (by simp [Region.wanted, yielded, Act.put]) ?_
  refine SeqA.read (.string (Bs x)) (fun w' hI => by have s0 := bytes_str (BS.headx (K15.out _ _ hI).1 b.length (by omega) HX1.out); unfold Sv at s0; go_simp) rfl (by simp [Region.wanted, yielded, Act.put]) ?_
  refine SeqA.pure (.slice A24 L16 c25) (fun w' => by go_simp) rfl (by simp [Region.wanted, yielded, Act.put]) ?_
  refine SeqA.pure (.slice AB b.length cb) (fun w' => by go_simp) rfl (by simp [Region.wanted, yielded, Act.put]) ?_
  simp only [Act.put, List.setIfInBounds_toArray, List.set_cons_succ, List.set_cons_zero]
  refine SeqA.pure (.int .i64 b.length) (fun w' => by go_simp) rfl (by simp [Region.wanted, yielded, Act.put]) ?_
  refine SeqA.pure (.slice A24 b.length c25) (fun w' => by go_simp) rfl (by simp [Region.wanted, yielded, Act.put]) ?_
  refine SeqA.read (.string (Bs x)) (fun w' hI => by have s0 := bytes_str (BS.headx (K23.out _ _ hI).1 b.length (by omega) HX2.out); unfold Sv at s0; go_simp) rfl (by simp [Region.wanted, yielded, Act.put]) ?_
  refine SeqA.pure (.bool true) (fun w' => by go_simp) rfl (by simp [Region.wanted, yielded, Act.put]) ?_
  refine SeqA.pure (.bool true) (fun w' => by go_simp) rfl rfl ?_
  refine SeqA.pure (.bool true) (fun w' => by go_simp) rfl rfl ?_
  refine SeqA.nil (fun w26 M27 hz => ?_)
  show wpT _ _ _ _ _ _
  simp only [Act.put, List.setIfInBounds_toArray, List.set_cons_succ, List.set_cons_zero]
  dsimp only [wpT]
  go_wp2_with fail
  go_ret
  exact ⟨rfl, (T0.out _ _ M27).end_⟩
theorem seal_xor {k n p q a b s s2 : List (BitVec 8)} (hs : s = Ad.sealed k n p a) (hs2 : s2 = Ad.sealed k n q b) (hl : a.length = b.length) (i : Nat) (hi : i < a.length) : s.getD i 0 ^^^ s2.getD i 0 = a.getD i 0 ^^^ b.getD i 0 := by
  have h1 : ∀ (x y : List (BitVec 8)) (o : List (BitVec 8)), i < y.length → x = Ad.sealed k n o y → x.getD i 0 = (Ch.str (Sh.derive k Ad.hideB) n 0 y.length).getD i 0 ^^^ y.getD i 0 := by
    intro x y o hy hx
    have e : x.getD i 0 = (Ad.hid k n y).getD i 0 := by
      rw [← sealed_take k n o y, ← hx, List.getD_eq_getElem?_getD, List.getD_eq_getElem?_getD, List.getElem?_take_of_lt hy]
    rw [e]
    unfold Ad.hid Ch.xr
    have hs : i < (Ch.str (Sh.derive k Ad.hideB) n 0 y.length).length := by rw [str_len]; exact hy
    rw [List.getD_eq_getElem?_getD, List.getElem?_zipWith, List.getD_eq_getElem?_getD, List.getD_eq_getElem?_getD, List.getElem?_eq_getElem hs, List.getElem?_eq_getElem hy]
    rfl
  rw [h1 s a p hi hs, h1 s2 b q (by omega) hs2, hl]
  generalize (Ch.str (Sh.derive k Ad.hideB) n 0 b.length).getD i 0 = z
  generalize a.getD i 0 = u
  generalize b.getD i 0 = v
  rw [BitVec.xor_comm z u, BitVec.xor_assoc, ← BitVec.xor_assoc z z v, BitVec.xor_self, BitVec.zero_xor]
set_option maxRecDepth 100000 in
set_option maxHeartbeats 8000000 in
theorem WholeSealed_w (w : World) (k o b : List (BitVec 8)) (vo vb : Value) (hT : KT w ∧ 0 < w.heap.size) (hk : k.length = 32) (hvo : BS w vo o) (hvb : BS w vb b) :
    Calls Tryd.prog 3 #[.agg (cs U8 k), vo, vb] w fun e w' => e = .returned (.bool true) ∧ Below w.heap.size w w' := by
  have hmo : o.length ≤ 9223372036854775807 := hvo.len
  have hmb : b.length ≤ 9223372036854775807 := hvb.len
  have HT := hid hT
  have HVO := hid hvo
  obtain ⟨AO, co, rfl, -⟩ := hvo.shape
  have HVB := hid hvb
  obtain ⟨AB, cb, rfl, -⟩ := hvb.shape
  obtain ⟨n0, hn0, hn0b⟩ : ∃ n : List (BitVec 8), n.length = 12 ∧ ∀ w, exBuild Tryd.prog 29 #[] w = .ok (.value (.agg (cs U8 n))) w := ⟨_, by simp [zs], xb_nonce0⟩
  obtain ⟨n, hn, hnb⟩ : ∃ n : List (BitVec 8), n.length = 12 ∧ ∀ w, exBuild Tryd.prog 29 #[(0, .int .u8 1)] w = .ok (.value (.agg (cs U8 n))) w := ⟨_, by simp [zs], xb_nonce1⟩
  have HN0 := hid hn0b
  have HN1 := hid hnb
  obtain ⟨ab, eab⟩ : ∃ b, b = ([97, 98] : List (BitVec 8)) := ⟨_, rfl⟩
  have hab : ab.length = 2 := by rw [eab]; rfl
  have HAB := hid eab
  obtain ⟨s0, es0⟩ : ∃ s, s = Ad.sealed k n0 [] ab := ⟨_, rfl⟩
  obtain ⟨hs0', ht0, hh0⟩ := sealed_open es0
  have hs0 : s0.length = 18 := by omega
  have HS0 := hid es0
  have HTG0 := hid ht0
  have HH0 := hid hh0
  have T0 := back0 (S := no) (w0 := w)
  clear hT hvo hvb hn0b hnb eab es0 ht0 hh0 hs0'
  by_cases h1 : 1000 < o.length
  · have h1i : (1000 : Int) < (o.length : Int) := by omega
    have M0 := Mm.start no w
    go_enter Tryd.func3, Tryd.ntmps3
    have M2 := (M0.alloc (cs U8 k) 23 (by decide))
    try simp only [World.size_alloc] at M2
    go_upto_region 1 with fail
    obtain ⟨w1, hw1⟩ : ∃ w1, w1 = (w.alloc (.cells (cs U8 k) 23)) := ⟨_, rfl⟩
    rw [← hw1] at M2 ⊢
    clear hw1
    refine wp_region_lin (.op 0 (.op 1 (.op 2 (.op 3 (.op 4 (.op 5 (.op 6 (.op 7 (.op 8 (.op 9 .done)))))))))) (by rfl) ?_
    refine wpT_ld0 15 Tryd.underlying23 rfl inf_key (w.heap.size) (cs U8 k) rfl rfl rfl (by go_simp) (M2.row (by simp)) (by simp [hk, hn]) rfl ?_
    refine wpT_valL 16 (v := .agg (cs U8 n0)) rfl rfl rfl (by have q := HN0.out w1; go_simp) ?_
    refine wpT_lit8 (len := 2) 17 18 M2 ab hab (by decide) (by decide) rfl rfl rfl (by rw [HAB.out]; go_simp; rfl) rfl rfl rfl rfl rfl (fun v => by go_simp) (fun g5 w3 K7 M4 B8 _ => ?_)

    try simp only [Act.put, List.setIfInBounds_toArray, List.set_cons_succ, List.set_cons_zero]
    refine wpT_callN 19 M4 (l := s0) (fun v => .tuple #[v, .int .i64 0]) rfl rfl rfl (by go_simp) (seal_v HS0.out HT.out (T0.out _ _ M4).end_ hk hn0 (OB.nil w3 0).bs K7 (by decide) (by omega)) (fun v9 w10 S12 M11 T13 K14 => ?_)
    replace T0 := backT T0 T13
    obtain ⟨A15, c16, rfl, -⟩ := (K14.out _ _ M11).1.shape' 18 hs0
    refine wpT_valp 14 (v := .tuple #[.slice A15 18 c16, .int .i64 0]) rfl rfl rfl (by go_simp) ?_
    refine wpT_valp 20 (v := .slice A15 18 c16) rfl rfl rfl (by go_simp) ?_
    refine wpT_valp 21 (v := .int .i64 0) rfl rfl rfl (by go_simp) ?_
    refine wpT_valp 7 (v := .slice A15 18 c16) rfl rfl rfl (by go_simp) ?_
    try simp only [Act.put, List.setIfInBounds_toArray, List.set_cons_succ, List.set_cons_zero]
    refine wpT_valp 8 (v := .int .i64 0) rfl rfl rfl (by go_simp) ?_
    dsimp only [wpT]
    try simp only [Act.put, List.setIfInBounds_toArray, List.set_cons_succ, List.set_cons_zero]
    go_upto_region 2 with fail
    refine wp_region_lin (.op 0 (.op 1 (.op 2 (.op 3 (.op 4 (.op 5 (.op 6 (.op 7 (.op 8 .done))))))))) (by rfl) ?_
    refine wpT_ld0 23 Tryd.underlying23 rfl inf_key (w.heap.size) (cs U8 k) rfl rfl rfl (by go_simp) (M11.row (by simp)) (by simp [hk, hn]) rfl ?_
    refine wpT_valL 24 (v := .agg (cs U8 n0)) rfl rfl rfl (by have q := HN0.out w10; go_simp) ?_
    refine wpT_valp 25 (v := .slice A15 18 c16) rfl rfl rfl (by go_simp) ?_
    refine wpT_callN 26 M11 (l := ab) (fun v => .tuple #[v, .int .i64 0]) rfl rfl rfl (by go_simp) (open_v HH0.out HTG0.out HT.out (T0.out _ _ M11).end_ hk hn0 (OB.nil w10 0).bs (K14.out _ _ M11).1 (by decide) (by omega) (by omega)) (fun v17 w18 S20 M19 T21 K22 => ?_)
    replace K14 := backT K14 T21
    replace T0 := backT T0 T21
    obtain ⟨A23, c24, rfl, -⟩ := (K22.out _ _ M19).1.shape' 2 hab
    try simp only [Act.put, List.setIfInBounds_toArray, List.set_cons_succ, List.set_cons_zero]
    refine wpT_valp 22 (v := .tuple #[.slice A23 2 c24, .int .i64 0]) rfl rfl rfl (by go_simp) ?_
    refine wpT_valp 27 (v := .slice A23 2 c24) rfl rfl rfl (by go_simp) ?_
    refine wpT_valp 28 (v := .int .i64 0) rfl rfl rfl (by go_simp) ?_
    refine wpT_valp 9 (v := .slice A23 2 c24) rfl rfl rfl (by go_simp) ?_
    refine wpT_valp 10 (v := .int .i64 0) rfl rfl rfl (by go_simp) ?_
    dsimp only [wpT]
    try simp only [Act.put, List.setIfInBounds_toArray, List.set_cons_succ, List.set_cons_zero]
    go_upto_region 3 with fail
    refine wp_region_lin (.op 0 (.op 1 (.op 2 (.op 3 (.op 4 (.op 5 (.op 6 (.op 7 (.op 8 (.op 9 (.op 10 .done))))))))))) (by rfl) ?_
    refine wpT_valp 29 (v := .int .i64 0) rfl rfl rfl (by go_simp) ?_
    refine wpT_valp 30 (v := .bool false) rfl rfl rfl (by go_simp) ?_
    refine wpT_valp 31 (v := .bool false) rfl rfl rfl (by go_simp) ?_
    refine wpT_valp 32 (v := .int .i64 0) rfl rfl (by simp [Region.wanted, yielded, Act.put]) (by go_simp) ?_
    try simp only [Act.put, List.setIfInBounds_toArray, List.set_cons_succ, List.set_cons_zero]
    refine wpT_valp 33 (v := .bool false) rfl rfl (by simp [Region.wanted, yielded, Act.put]) (by go_simp) ?_
    refine wpT_valp 34 (v := .bool false) rfl rfl rfl (by go_simp) ?_
    refine wpT_valp 35 (v := .bool false) rfl rfl rfl (by go_simp) ?_
    refine wpT_valp 36 (v := .slice A23 2 c24) rfl rfl (by simp [Region.wanted, yielded, Act.put]) (by go_simp) ?_
    refine wpT_valp 37 (v := .string ⟨#[97, 98]⟩) rfl rfl (by simp [Region.wanted, yielded, Act.put]) (by have s0 := bytes_str (K22.out _ _ M19).1; unfold Sv at s0; rw [HAB.out] at s0; exact (by go_simp; rfl)) ?_
    try simp only [Act.put, List.setIfInBounds_toArray, List.set_cons_succ, List.set_cons_zero]
    refine wpT_valp 38 (v := .bool false) rfl rfl (by simp [Region.wanted, yielded, Act.put]) (by go_simp) ?_
    refine wpT_valp 39 (v := .bool false) rfl rfl rfl (by go_simp) ?_
    dsimp only [wpT]
    try simp only [Act.put, List.setIfInBounds_toArray, List.set_cons_succ, List.set_cons_zero]
    go_upto_region 5 with fail
    refine wp_region_lin (.op 0 (.op 1 (.op 2 (.op 3 (.op 4 (.op 5 (.op 6 (.op 7 (.op 8 (.op 9 .done)))))))))) (by rfl) ?_
    refine wpT_valp 40 (v := .slice AO o.length co) rfl rfl rfl (by go_simp) ?_
    refine wpT_valp 41 (v := .int .i64 o.length) rfl rfl rfl (by go_simp) ?_
    refine wpT_valp 42 (v := .bool true) rfl rfl rfl (by go_simp) ?_
    refine wpT_valp 43 (v := .bool true) rfl rfl rfl (by go_simp) ?_
    try simp only [Act.put, List.setIfInBounds_toArray, List.set_cons_succ, List.set_cons_zero]
    refine wpT_unw 44 rfl rfl (by simp [Region.wanted, yielded, Act.put]) ?_
    refine wpT_unw 45 rfl rfl (by simp [Region.wanted, yielded, Act.put]) ?_
    refine wpT_unw 46 rfl rfl (by simp [Region.wanted, yielded, Act.put]) ?_
    refine wpT_unw 47 rfl rfl (by simp [Region.wanted, yielded, Act.put]) ?_
    refine wpT_unw 48 rfl rfl (by simp [Region.wanted, yielded, Act.put]) ?_
    try simp only [Act.put, List.setIfInBounds_toArray, List.set_cons_succ, List.set_cons_zero]
    refine wpT_valp 49 (v := .bool true) rfl rfl rfl (by go_simp) ?_
    dsimp only [wpT]
    try simp only [Act.put, List.setIfInBounds_toArray, List.set_cons_succ, List.set_cons_zero]
    go_upto_region 6 with fail
    refine wp_region_lin (.op 0 .done) (by rfl) ?_
    refine wpT_valp 6 (v := .bool true) rfl rfl rfl (by go_simp) ?_
    dsimp only [wpT]
    try simp only [Act.put, List.setIfInBounds_toArray, List.set_cons_succ, List.set_cons_zero]
    go_wp2_with fail
    go_ret
    exact ⟨rfl, (T0.out _ _ M19).end_⟩
  have h1i : ¬ (1000 : Int) < (o.length : Int) := by omega
  by_cases h2n : ¬ o.length = b.length
  · have h2i : ¬ (o.length : Int) = (b.length : Int) := by omega
    have M0 := Mm.start no w
    go_enter Tryd.func3, Tryd.ntmps3
    have M2 := (M0.alloc (cs U8 k) 23 (by decide))
    try simp only [World.size_alloc] at M2
    go_upto_region 1 with fail
    obtain ⟨w1, hw1⟩ : ∃ w1, w1 = (w.alloc (.cells (cs U8 k) 23)) := ⟨_, rfl⟩
    rw [← hw1] at M2 ⊢
    clear hw1
    refine wp_region_lin (.op 0 (.op 1 (.op 2 (.op 3 (.op 4 (.op 5 (.op 6 (.op 7 (.op 8 (.op 9 .done)))))))))) (by rfl) ?_
    refine wpT_ld0 15 Tryd.underlying23 rfl inf_key (w.heap.size) (cs U8 k) rfl rfl rfl (by go_simp) (M2.row (by simp)) (by simp [hk, hn]) rfl ?_
    refine wpT_valL 16 (v := .agg (cs U8 n0)) rfl rfl rfl (by have q := HN0.out w1; go_simp) ?_
    refine wpT_lit8 (len := 2) 17 18 M2 ab hab (by decide) (by decide) rfl rfl rfl (by rw [HAB.out]; go_simp; rfl) rfl rfl rfl rfl rfl (fun v => by go_simp) (fun g5 w3 K7 M4 B8 _ => ?_)

    try simp only [Act.put, List.setIfInBounds_toArray, List.set_cons_succ, List.set_cons_zero]
    refine wpT_callN 19 M4 (l := s0) (fun v => .tuple #[v, .int .i64 0]) rfl rfl rfl (by go_simp) (seal_v HS0.out HT.out (T0.out _ _ M4).end_ hk hn0 (OB.nil w3 0).bs K7 (by decide) (by omega)) (fun v9 w10 S12 M11 T13 K14 => ?_)
    replace T0 := backT T0 T13
    obtain ⟨A15, c16, rfl, -⟩ := (K14.out _ _ M11).1.shape' 18 hs0
    refine wpT_valp 14 (v := .tuple #[.slice A15 18 c16, .int .i64 0]) rfl rfl rfl (by go_simp) ?_
    refine wpT_valp 20 (v := .slice A15 18 c16) rfl rfl rfl (by go_simp) ?_
    refine wpT_valp 21 (v := .int .i64 0) rfl rfl rfl (by go_simp) ?_
    refine wpT_valp 7 (v := .slice A15 18 c16) rfl rfl rfl (by go_simp) ?_
    try simp only [Act.put, List.setIfInBounds_toArray, List.set_cons_succ, List.set_cons_zero]
    refine wpT_valp 8 (v := .int .i64 0) rfl rfl rfl (by go_simp) ?_
    dsimp only [wpT]
    try simp only [Act.put, List.setIfInBounds_toArray, List.set_cons_succ, List.set_cons_zero]
    go_upto_region 2 with fail
    refine wp_region_lin (.op 0 (.op 1 (.op 2 (.op 3 (.op 4 (.op 5 (.op 6 (.op 7 (.op 8 .done))))))))) (by rfl) ?_
    refine wpT_ld0 23 Tryd.underlying23 rfl inf_key (w.heap.size) (cs U8 k) rfl rfl rfl (by go_simp) (M11.row (by simp)) (by simp [hk, hn]) rfl ?_
    refine wpT_valL 24 (v := .agg (cs U8 n0)) rfl rfl rfl (by have q := HN0.out w10; go_simp) ?_
    refine wpT_valp 25 (v := .slice A15 18 c16) rfl rfl rfl (by go_simp) ?_
    refine wpT_callN 26 M11 (l := ab) (fun v => .tuple #[v, .int .i64 0]) rfl rfl rfl (by go_simp) (open_v HH0.out HTG0.out HT.out (T0.out _ _ M11).end_ hk hn0 (OB.nil w10 0).bs (K14.out _ _ M11).1 (by decide) (by omega) (by omega)) (fun v17 w18 S20 M19 T21 K22 => ?_)
    replace K14 := backT K14 T21
    replace T0 := backT T0 T21
    obtain ⟨A23, c24, rfl, -⟩ := (K22.out _ _ M19).1.shape' 2 hab
    try simp only [Act.put, List.setIfInBounds_toArray, List.set_cons_succ, List.set_cons_zero]
    refine wpT_valp 22 (v := .tuple #[.slice A23 2 c24, .int .i64 0]) rfl rfl rfl (by go_simp) ?_
    refine wpT_valp 27 (v := .slice A23 2 c24) rfl rfl rfl (by go_simp) ?_
    refine wpT_valp 28 (v := .int .i64 0) rfl rfl rfl (by go_simp) ?_
    refine wpT_valp 9 (v := .slice A23 2 c24) rfl rfl rfl (by go_simp) ?_
    refine wpT_valp 10 (v := .int .i64 0) rfl rfl rfl (by go_simp) ?_
    dsimp only [wpT]
    try simp only [Act.put, List.setIfInBounds_toArray, List.set_cons_succ, List.set_cons_zero]
    go_upto_region 3 with fail
    refine wp_region_lin (.op 0 (.op 1 (.op 2 (.op 3 (.op 4 (.op 5 (.op 6 (.op 7 (.op 8 (.op 9 (.op 10 .done))))))))))) (by rfl) ?_
    refine wpT_valp 29 (v := .int .i64 0) rfl rfl rfl (by go_simp) ?_
    refine wpT_valp 30 (v := .bool false) rfl rfl rfl (by go_simp) ?_
    refine wpT_valp 31 (v := .bool false) rfl rfl rfl (by go_simp) ?_
    refine wpT_valp 32 (v := .int .i64 0) rfl rfl (by simp [Region.wanted, yielded, Act.put]) (by go_simp) ?_
    try simp only [Act.put, List.setIfInBounds_toArray, List.set_cons_succ, List.set_cons_zero]
    refine wpT_valp 33 (v := .bool false) rfl rfl (by simp [Region.wanted, yielded, Act.put]) (by go_simp) ?_
    refine wpT_valp 34 (v := .bool false) rfl rfl rfl (by go_simp) ?_
    refine wpT_valp 35 (v := .bool false) rfl rfl rfl (by go_simp) ?_
    refine wpT_valp 36 (v := .slice A23 2 c24) rfl rfl (by simp [Region.wanted, yielded, Act.put]) (by go_simp) ?_
    refine wpT_valp 37 (v := .string ⟨#[97, 98]⟩) rfl rfl (by simp [Region.wanted, yielded, Act.put]) (by have s0 := bytes_str (K22.out _ _ M19).1; unfold Sv at s0; rw [HAB.out] at s0; exact (by go_simp; rfl)) ?_
    try simp only [Act.put, List.setIfInBounds_toArray, List.set_cons_succ, List.set_cons_zero]
    refine wpT_valp 38 (v := .bool false) rfl rfl (by simp [Region.wanted, yielded, Act.put]) (by go_simp) ?_
    refine wpT_valp 39 (v := .bool false) rfl rfl rfl (by go_simp) ?_
    dsimp only [wpT]
    try simp only [Act.put, List.setIfInBounds_toArray, List.set_cons_succ, List.set_cons_zero]
    go_upto_region 5 with fail
    refine wp_region_lin (.op 0 (.op 1 (.op 2 (.op 3 (.op 4 (.op 5 (.op 6 (.op 7 (.op 8 (.op 9 .done)))))))))) (by rfl) ?_
    refine wpT_valp 40 (v := .slice AO o.length co) rfl rfl rfl (by go_simp) ?_
    refine wpT_valp 41 (v := .int .i64 o.length) rfl rfl rfl (by go_simp) ?_
    refine wpT_valp 42 (v := .bool false) rfl rfl rfl (by go_simp) ?_
    refine wpT_valp 43 (v := .bool false) rfl rfl rfl (by go_simp) ?_
    try simp only [Act.put, List.setIfInBounds_toArray, List.set_cons_succ, List.set_cons_zero]
    refine wpT_valp 44 (v := .slice AO o.length co) rfl rfl (by simp [Region.wanted, yielded, Act.put]) (by go_simp) ?_
    refine wpT_valp 45 (v := .int .i64 o.length) rfl rfl (by simp [Region.wanted, yielded, Act.put]) (by go_simp) ?_
    refine wpT_valp 46 (v := .slice AB b.length cb) rfl rfl (by simp [Region.wanted, yielded, Act.put]) (by go_simp) ?_
    refine wpT_valp 47 (v := .int .i64 b.length) rfl rfl (by simp [Region.wanted, yielded, Act.put]) (by go_simp) ?_
    refine wpT_valp 48 (v := .bool true) rfl rfl (by simp [Region.wanted, yielded, Act.put]) (by go_simp) ?_
    try simp only [Act.put, List.setIfInBounds_toArray, List.set_cons_succ, List.set_cons_zero]
    refine wpT_valp 49 (v := .bool true) rfl rfl rfl (by go_simp) ?_
    dsimp only [wpT]
    try simp only [Act.put, List.setIfInBounds_toArray, List.set_cons_succ, List.set_cons_zero]
    go_upto_region 6 with fail
    refine wp_region_lin (.op 0 .done) (by rfl) ?_
    refine wpT_valp 6 (v := .bool true) rfl rfl rfl (by go_simp) ?_
    dsimp only [wpT]
    try simp only [Act.put, List.setIfInBounds_toArray, List.set_cons_succ, List.set_cons_zero]
    go_wp2_with fail
    go_ret
    exact ⟨rfl, (T0.out _ _ M19).end_⟩
  have h2 : o.length = b.length := by omega
  clear h2n
  obtain ⟨s, es⟩ : ∃ s, s = Ad.sealed k n [] o := ⟨_, rfl⟩
  obtain ⟨s2, es2⟩ : ∃ s, s = Ad.sealed k n [] b := ⟨_, rfl⟩
  obtain ⟨L16, hL16⟩ : ∃ L16, L16 = o.length + 16 := ⟨_, rfl⟩
  have hsL : s.length = L16 := by rw [es, sealed_len, hL16]
  have hsL2 : s2.length = L16 := by rw [es2, sealed_len, hL16, h2]
  have HXA := hid (seal_xor es es2 h2)
  have HL16 := hid (show IntKind.i64.wrap ((o.length : Int) + 16) = (L16 : Int) by rw [i64m _ (by omega) (by omega)]; omega)
  have HL16b := hid (show IntKind.i64.wrap ((b.length : Int) + 16) = (L16 : Int) by rw [i64m _ (by omega) (by omega)]; omega)
  have hoL : o.length < L16 := by omega
  have hbL : b.length < L16 := by omega
  have hL3 : L16 ≤ 1516 := by omega
  have HS := hid es
  have HS2 := hid es2
  have H2 := hid (show (o.length : Int) = (b.length : Int) by omega)
  have hb3 : b.length ≤ 1000 := by omega
  have ho3 : o.length ≤ 1000 := by omega
  clear es es2 hL16 h2
  have M0 := Mm.start no w
  go_enter Tryd.func3, Tryd.ntmps3
  have M2 := (M0.alloc (cs U8 k) 23 (by decide))
  try simp only [World.size_alloc] at M2
  go_upto_region 1 with fail
  obtain ⟨w1, hw1⟩ : ∃ w1, w1 = (w.alloc (.cells (cs U8 k) 23)) := ⟨_, rfl⟩
  rw [← hw1] at M2 ⊢
  clear hw1
  refine wp_region_lin (.op 0 (.op 1 (.op 2 (.op 3 (.op 4 (.op 5 (.op 6 (.op 7 (.op 8 (.op 9 .done)))))))))) (by rfl) ?_
  refine wpT_ld0 15 Tryd.underlying23 rfl inf_key (w.heap.size) (cs U8 k) rfl rfl rfl (by go_simp) (M2.row (by simp)) (by simp [hk, hn]) rfl ?_
  refine wpT_valL 16 (v := .agg (cs U8 n0)) rfl rfl rfl (by have q := HN0.out w1; go_simp) ?_
  refine wpT_lit8 (len := 2) 17 18 M2 ab hab (by decide) (by decide) rfl rfl rfl (by rw [HAB.out]; go_simp; rfl) rfl rfl rfl rfl rfl (fun v => by go_simp) (fun g5 w3 K7 M4 B8 _ => ?_)

  try simp only [Act.put, List.setIfInBounds_toArray, List.set_cons_succ, List.set_cons_zero]
  refine wpT_callN 19 M4 (l := s0) (fun v => .tuple #[v, .int .i64 0]) rfl rfl rfl (by go_simp) (seal_v HS0.out HT.out (T0.out _ _ M4).end_ hk hn0 (OB.nil w3 0).bs K7 (by decide) (by omega)) (fun v9 w10 S12 M11 T13 K14 => ?_)
  replace T0 := backT T0 T13
  obtain ⟨A15, c16, rfl, -⟩ := (K14.out _ _ M11).1.shape' 18 hs0
  refine wpT_valp 14 (v := .tuple #[.slice A15 18 c16, .int .i64 0]) rfl rfl rfl (by go_simp) ?_
  refine wpT_valp 20 (v := .slice A15 18 c16) rfl rfl rfl (by go_simp) ?_
  refine wpT_valp 21 (v := .int .i64 0) rfl rfl rfl (by go_simp) ?_
  refine wpT_valp 7 (v := .slice A15 18 c16) rfl rfl rfl (by go_simp) ?_
  try simp only [Act.put, List.setIfInBounds_toArray, List.set_cons_succ, List.set_cons_zero]
  refine wpT_valp 8 (v := .int .i64 0) rfl rfl rfl (by go_simp) ?_
  dsimp only [wpT]
  try simp only [Act.put, List.setIfInBounds_toArray, List.set_cons_succ, List.set_cons_zero]
  go_upto_region 2 with fail
  refine wp_region_lin (.op 0 (.op 1 (.op 2 (.op 3 (.op 4 (.op 5 (.op 6 (.op 7 (.op 8 .done))))))))) (by rfl) ?_
  refine wpT_ld0 23 Tryd.underlying23 rfl inf_key (w.heap.size) (cs U8 k) rfl rfl rfl (by go_simp) (M11.row (by simp)) (by simp [hk, hn]) rfl ?_
  refine wpT_valL 24 (v := .agg (cs U8 n0)) rfl rfl rfl (by have q := HN0.out w10; go_simp) ?_
  refine wpT_valp 25 (v := .slice A15 18 c16) rfl rfl rfl (by go_simp) ?_
  refine wpT_callN 26 M11 (l := ab) (fun v => .tuple #[v, .int .i64 0]) rfl rfl rfl (by go_simp) (open_v HH0.out HTG0.out HT.out (T0.out _ _ M11).end_ hk hn0 (OB.nil w10 0).bs (K14.out _ _ M11).1 (by decide) (by omega) (by omega)) (fun v17 w18 S20 M19 T21 K22 => ?_)
  replace K14 := backT K14 T21
  replace T0 := backT T0 T21
  obtain ⟨A23, c24, rfl, -⟩ := (K22.out _ _ M19).1.shape' 2 hab
  try simp only [Act.put, List.setIfInBounds_toArray, List.set_cons_succ, List.set_cons_zero]
  refine wpT_valp 22 (v := .tuple #[.slice A23 2 c24, .int .i64 0]) rfl rfl rfl (by go_simp) ?_
  refine wpT_valp 27 (v := .slice A23 2 c24) rfl rfl rfl (by go_simp) ?_
  refine wpT_valp 28 (v := .int .i64 0) rfl rfl rfl (by go_simp) ?_
  refine wpT_valp 9 (v := .slice A23 2 c24) rfl rfl rfl (by go_simp) ?_
  refine wpT_valp 10 (v := .int .i64 0) rfl rfl rfl (by go_simp) ?_
  dsimp only [wpT]
  try simp only [Act.put, List.setIfInBounds_toArray, List.set_cons_succ, List.set_cons_zero]
  go_upto_region 3 with fail
  refine wp_region_lin (.op 0 (.op 1 (.op 2 (.op 3 (.op 4 (.op 5 (.op 6 (.op 7 (.op 8 (.op 9 (.op 10 .done))))))))))) (by rfl) ?_
  refine wpT_valp 29 (v := .int .i64 0) rfl rfl rfl (by go_simp) ?_
  refine wpT_valp 30 (v := .bool false) rfl rfl rfl (by go_simp) ?_
  refine wpT_valp 31 (v := .bool false) rfl rfl rfl (by go_simp) ?_
  refine wpT_valp 32 (v := .int .i64 0) rfl rfl (by simp [Region.wanted, yielded, Act.put]) (by go_simp) ?_
  try simp only [Act.put, List.setIfInBounds_toArray, List.set_cons_succ, List.set_cons_zero]
  refine wpT_valp 33 (v := .bool false) rfl rfl (by simp [Region.wanted, yielded, Act.put]) (by go_simp) ?_
  refine wpT_valp 34 (v := .bool false) rfl rfl rfl (by go_simp) ?_
  refine wpT_valp 35 (v := .bool false) rfl rfl rfl (by go_simp) ?_
  refine wpT_valp 36 (v := .slice A23 2 c24) rfl rfl (by simp [Region.wanted, yielded, Act.put]) (by go_simp) ?_
  refine wpT_valp 37 (v := .string ⟨#[97, 98]⟩) rfl rfl (by simp [Region.wanted, yielded, Act.put]) (by have s0 := bytes_str (K22.out _ _ M19).1; unfold Sv at s0; rw [HAB.out] at s0; exact (by go_simp; rfl)) ?_
  try simp only [Act.put, List.setIfInBounds_toArray, List.set_cons_succ, List.set_cons_zero]
  refine wpT_valp 38 (v := .bool false) rfl rfl (by simp [Region.wanted, yielded, Act.put]) (by go_simp) ?_
  refine wpT_valp 39 (v := .bool false) rfl rfl rfl (by go_simp) ?_
  dsimp only [wpT]
  try simp only [Act.put, List.setIfInBounds_toArray, List.set_cons_succ, List.set_cons_zero]
  go_upto_region 5 with fail
  refine wp_region_lin (.op 0 (.op 1 (.op 2 (.op 3 (.op 4 (.op 5 (.op 6 (.op 7 (.op 8 (.op 9 .done)))))))))) (by rfl) ?_
  refine wpT_valp 40 (v := .slice AO o.length co) rfl rfl rfl (by go_simp) ?_
  refine wpT_valp 41 (v := .int .i64 o.length) rfl rfl rfl (by go_simp) ?_
  refine wpT_valp 42 (v := .bool false) rfl rfl rfl (by go_simp) ?_
  refine wpT_valp 43 (v := .bool false) rfl rfl rfl (by go_simp) ?_
  try simp only [Act.put, List.setIfInBounds_toArray, List.set_cons_succ, List.set_cons_zero]
  refine wpT_valp 44 (v := .slice AO o.length co) rfl rfl (by simp [Region.wanted, yielded, Act.put]) (by go_simp) ?_
  refine wpT_valp 45 (v := .int .i64 o.length) rfl rfl (by simp [Region.wanted, yielded, Act.put]) (by go_simp) ?_
  refine wpT_valp 46 (v := .slice AB b.length cb) rfl rfl (by simp [Region.wanted, yielded, Act.put]) (by go_simp) ?_
  refine wpT_valp 47 (v := .int .i64 b.length) rfl rfl (by simp [Region.wanted, yielded, Act.put]) (by go_simp) ?_
  refine wpT_valp 48 (v := .bool false) rfl rfl (by simp [Region.wanted, yielded, Act.put]) (by have q := H2.out; go_simp) ?_
  try simp only [Act.put, List.setIfInBounds_toArray, List.set_cons_succ, List.set_cons_zero]
  refine wpT_valp 49 (v := .bool false) rfl rfl rfl (by go_simp) ?_
  dsimp only [wpT]
  try simp only [Act.put, List.setIfInBounds_toArray, List.set_cons_succ, List.set_cons_zero]
  go_upto_region 7 with fail
  refine wp_region_lin (.op 0 (.op 1 (.op 2 (.op 3 (.op 4 (.op 5 (.op 6 (.op 7 (.op 8 .done))))))))) (by rfl) ?_
  refine wpT_ld0 51 Tryd.underlying23 rfl inf_key (w.heap.size) (cs U8 k) rfl rfl rfl (by go_simp) (M19.row (by simp)) (by simp [hk, hn]) rfl ?_
  refine wpT_valL 52 (v := .agg (cs U8 n)) rfl rfl rfl (by have q := HN1.out w18; go_simp) ?_
  refine wpT_valp 53 (v := .slice AO o.length co) rfl rfl rfl (by go_simp) ?_
  refine wpT_callN 54 M19 (l := s) (fun v => .tuple #[v, .int .i64 0]) rfl rfl rfl (by go_simp) (seal_v HS.out HT.out (T0.out _ _ M19).end_ hk hn (OB.nil w18 0).bs (SV.below HVO.out (T0.out _ _ M19).end_) (by decide) (by omega)) (fun v25 w26 S28 M27 T29 K30 => ?_)
  replace K14 := backT K14 T29
  replace K22 := backT K22 T29
  replace T0 := backT T0 T29
  obtain ⟨A31, c32, rfl, -⟩ := (K30.out _ _ M27).1.shape' L16 hsL
  try simp only [Act.put, List.setIfInBounds_toArray, List.set_cons_succ, List.set_cons_zero]
  refine wpT_valp 50 (v := .tuple #[.slice A31 L16 c32, .int .i64 0]) rfl rfl rfl (by go_simp) ?_
  refine wpT_valp 55 (v := .slice A31 L16 c32) rfl rfl rfl (by go_simp) ?_
  refine wpT_valp 56 (v := .int .i64 0) rfl rfl rfl (by go_simp) ?_
  refine wpT_valp 11 (v := .slice A31 L16 c32) rfl rfl rfl (by go_simp) ?_
  refine wpT_valp 8 (v := .int .i64 0) rfl rfl rfl (by go_simp) ?_
  dsimp only [wpT]
  try simp only [Act.put, List.setIfInBounds_toArray, List.set_cons_succ, List.set_cons_zero]
  go_upto_region 8 with fail
  refine wp_region_lin (.op 0 (.op 1 (.op 2 (.op 3 (.op 4 (.op 5 (.op 6 (.op 7 (.op 8 .done))))))))) (by rfl) ?_
  refine wpT_ld0 58 Tryd.underlying23 rfl inf_key (w.heap.size) (cs U8 k) rfl rfl rfl (by go_simp) (M27.row (by simp)) (by simp [hk, hn]) rfl ?_
  refine wpT_valL 59 (v := .agg (cs U8 n)) rfl rfl rfl (by have q := HN1.out w26; go_simp) ?_
  refine wpT_valp 60 (v := .slice AB b.length cb) rfl rfl rfl (by go_simp) ?_
  refine wpT_callN 61 M27 (l := s2) (fun v => .tuple #[v, .int .i64 0]) rfl rfl rfl (by go_simp) (seal_v HS2.out HT.out (T0.out _ _ M27).end_ hk hn (OB.nil w26 0).bs (SV.below HVB.out (T0.out _ _ M27).end_) (by decide) (by omega)) (fun v33 w34 S36 M35 T37 K38 => ?_)
  replace K14 := backT K14 T37
  replace K22 := backT K22 T37
  replace K30 := backT K30 T37
  replace T0 := backT T0 T37
  obtain ⟨A39, c40, rfl, -⟩ := (K38.out _ _ M35).1.shape' L16 hsL2
  try simp only [Act.put, List.setIfInBounds_toArray, List.set_cons_succ, List.set_cons_zero]
  refine wpT_valp 57 (v := .tuple #[.slice A39 L16 c40, .int .i64 0]) rfl rfl rfl (by go_simp) ?_
  refine wpT_valp 62 (v := .slice A39 L16 c40) rfl rfl rfl (by go_simp) ?_
  refine wpT_valp 63 (v := .int .i64 0) rfl rfl rfl (by go_simp) ?_
  refine wpT_valp 12 (v := .slice A39 L16 c40) rfl rfl rfl (by go_simp) ?_
  refine wpT_valp 10 (v := .int .i64 0) rfl rfl rfl (by go_simp) ?_
  dsimp only [wpT]
  try simp only [Act.put, List.setIfInBounds_toArray, List.set_cons_succ, List.set_cons_zero]
  go_upto_region 9 with fail
  refine wp_region_lin (.op 0 (.op 1 (.op 2 (.op 3 (.op 4 (.op 5 (.op 6 (.op 7 (.op 8 (.op 9 (.op 10 (.op 11 (.op 12 (.op 13 (.op 14 (.op 15 (.op 16 (.op 17 (.op 18 (.op 19 (.op 20 (.op 21 .done)))))))))))))))))))))) (by rfl) ?_
  refine wpT_valp 64 (v := .int .i64 0) rfl rfl rfl (by go_simp) ?_
  refine wpT_valp 65 (v := .bool false) rfl rfl rfl (by go_simp) ?_
  refine wpT_valp 66 (v := .bool false) rfl rfl rfl (by go_simp) ?_
  refine wpT_valp 67 (v := .int .i64 0) rfl rfl (by simp [Region.wanted, yielded, Act.put]) (by go_simp) ?_
  try simp only [Act.put, List.setIfInBounds_toArray, List.set_cons_succ, List.set_cons_zero]
  refine wpT_valp 68 (v := .bool false) rfl rfl (by simp [Region.wanted, yielded, Act.put]) (by go_simp) ?_
  refine wpT_valp 69 (v := .bool false) rfl rfl rfl (by go_simp) ?_
  refine wpT_valp 70 (v := .bool false) rfl rfl rfl (by go_simp) ?_
  refine wpT_valp 71 (v := .slice A31 L16 c32) rfl rfl (by simp [Region.wanted, yielded, Act.put]) (by go_simp) ?_
  refine wpT_valp 72 (v := .int .i64 L16) rfl rfl (by simp [Region.wanted, yielded, Act.put]) (by go_simp) ?_
  try simp only [Act.put, List.setIfInBounds_toArray, List.set_cons_succ, List.set_cons_zero]
  refine wpT_valp 73 (v := .slice AO o.length co) rfl rfl (by simp [Region.wanted, yielded, Act.put]) (by go_simp) ?_
  refine wpT_valp 74 (v := .int .i64 o.length) rfl rfl (by simp [Region.wanted, yielded, Act.put]) (by go_simp) ?_
  refine wpT_valp 75 (v := .int .i64 L16) rfl rfl (by simp [Region.wanted, yielded, Act.put]) (by have h := HL16.out; go_simp) ?_
  refine wpT_valp 76 (v := .bool false) rfl rfl (by simp [Region.wanted, yielded, Act.put]) (by go_simp) ?_
  refine wpT_valp 77 (v := .bool false) rfl rfl rfl (by go_simp) ?_
  try simp only [Act.put, List.setIfInBounds_toArray, List.set_cons_succ, List.set_cons_zero]
  refine wpT_valp 78 (v := .bool false) rfl rfl rfl (by go_simp) ?_
  refine wpT_valp 79 (v := .slice A39 L16 c40) rfl rfl (by simp [Region.wanted, yielded, Act.put]) (by go_simp) ?_
  refine wpT_valp 80 (v := .int .i64 L16) rfl rfl (by simp [Region.wanted, yielded, Act.put]) (by go_simp) ?_
  refine wpT_valp 81 (v := .slice AB b.length cb) rfl rfl (by simp [Region.wanted, yielded, Act.put]) (by go_simp) ?_
  refine wpT_valp 82 (v := .int .i64 b.length) rfl rfl (by simp [Region.wanted, yielded, Act.put]) (by go_simp) ?_
  try simp only [Act.put, List.setIfInBounds_toArray, List.set_cons_succ, List.set_cons_zero]
  refine wpT_valp 83 (v := .int .i64 L16) rfl rfl (by simp [Region.wanted, yielded, Act.put]) (by have h := HL16b.out; go_simp) ?_
  refine wpT_valp 84 (v := .bool false) rfl rfl (by simp [Region.wanted, yielded, Act.put]) (by go_simp) ?_
  refine wpT_valp 85 (v := .bool false) rfl rfl rfl (by go_simp) ?_
  dsimp only [wpT]
  try simp only [Act.put, List.setIfInBounds_toArray, List.set_cons_succ, List.set_cons_zero]
  go_upto_region 11 with fail
  refine wp_region_lin (.op 0 (.op 1 (.op 2 .done))) (by rfl) ?_
  refine wpT_valp 86 (v := .slice AO o.length co) rfl rfl rfl (by go_simp) ?_
  refine wpT_valp 87 (v := .int .i64 o.length) rfl rfl rfl (by go_simp) ?_
  refine wpT_valp 88 (v := .int .i64 0) rfl rfl rfl (by go_simp) ?_
  dsimp only [wpT]
  try simp only [Act.put, List.setIfInBounds_toArray, List.set_cons_succ, List.set_cons_zero]
  have HP1 := K30
  have HP2 := K38
  have MZ := M35
  clear M35
  obtain ⟨ga, oa, ca, e, -, -⟩ := BS.open (HP1.out _ _ MZ).1 (by intro e; rw [e] at hsL; simp at hsL; omega)
  rw [hsL] at e
  injection e with e1 _ e2
  subst e1
  subst e2
  obtain ⟨gb, ob, cbb, e, -, -⟩ := BS.open (HP2.out _ _ MZ).1 (by intro e; rw [e] at hsL2; simp at hsL2; omega)
  rw [hsL2] at e
  injection e with e1 _ e2
  subst e1
  subst e2
  go_wp2_with fail
  go_loopw [88] (fun x wr => ∃ i : Nat, i ≤ o.length ∧ x = .int .i64 i ∧ Mm S36 w34 [(w.heap.size, cs U8 k)] wr) (fun x _ => o.length - (intOf x).toNat)
  case atStart => exact ⟨0, by omega, rfl, MZ⟩
  case round =>
    clear MZ
    obtain ⟨i, hi, rfl, M⟩ := hrel
    by_cases hlt : i < o.length
    · have hlt2 : (i : Int) < (o.length : Int) := by omega
      have hlt3 : (i : Int) < (b.length : Int) := by have := H2.out; omega
      have hlt4 : (i : Int) < (L16 : Int) := by omega
      have hi0 : (0 : Int) ≤ (i : Int) := by omega
      have hib : i < b.length := by have := H2.out; omega
      obtain ⟨p1, hp1⟩ : ∃ p, p = s.getD i 0 := ⟨_, rfl⟩
      obtain ⟨p2, hp2⟩ : ∃ p, p = s2.getD i 0 := ⟨_, rfl⟩
      obtain ⟨p3, hp3⟩ : ∃ p, p = o.getD i 0 := ⟨_, rfl⟩
      obtain ⟨p4, hp4⟩ : ∃ p, p = b.getD i 0 := ⟨_, rfl⟩
      obtain ⟨y, hy⟩ : ∃ y, p3 ^^^ p4 = y := ⟨_, rfl⟩
      have HX1 := hid (show p1 ^^^ p2 = y by rw [← hy, hp1, hp2, hp3, hp4]; exact HXA.out i hlt)
      have HX2 := hid hy
      have Hp1 := hid hp1
      have Hp2 := hid hp2
      have Hp3 := hid hp3
      have Hp4 := hid hp4
      clear hy hp1 hp2 hp3 hp4
      obtain ⟨gc, oc, cc, eb, -, -⟩ := HVO.out.open (by intro e; rw [e] at hlt; simp at hlt)
      injection eb with e1 _ e2
      subst e1
      subst e2
      obtain ⟨gd, od, cd, eb, -, -⟩ := HVB.out.open (by intro e; rw [e] at hib; simp at hib)
      injection eb with e1 _ e2
      subst e1
      subst e2
      go_upto_region 14 with fail
      refine wp_region_seq 19 [91, 92, 93, 94, 95, 96, 97, 98, 99, 100, 101, 102, 103, 104, 105, 106, 107, 108, 109] [] [] [] (.done) (Mm S36 w34 _) (by kernel_rfl) (by kernel_rfl) (by kernel_rfl) (fun d _ _ _ _ h => by cases d <;> exact h) (by rfl) M.size (fun _ _ h k => h.sf k) M ?_
      simp only [List.take_succ_cons, List.take_zero]
      refine SeqA.pure (.slice (some ⟨ga, oa, none⟩) L16 c32) (fun w' => by go_simp) rfl rfl ?_
      refine SeqA.pure (.int .i64 i) (fun w' => by go_simp) rfl rfl ?_
      refine SeqA.pure (.pointer (some ⟨ga, oa + i, none⟩)) (fun w' => by go_simp) rfl rfl ?_
      refine SeqA.read (U8 p1) (fun w' hI => by have c0 := bs_cell ((HP1.out _ _ hI).1) i (by omega); rw [← Hp1.out] at c0; go_simp) rfl rfl ?_
      refine SeqA.pure (.slice (some ⟨gb, ob, none⟩) L16 c40) (fun w' => by go_simp) rfl rfl ?_
      simp only [Act.put, List.setIfInBounds_toArray, List.set_cons_succ, List.set_cons_zero]
      refine SeqA.pure (.int .i64 i) (fun w' => by go_simp) rfl rfl ?_
      refine SeqA.pure (.pointer (some ⟨gb, ob + i, none⟩)) (fun w' => by go_simp) rfl rfl ?_
      refine SeqA.read (U8 p2) (fun w' hI => by have c0 := bs_cell ((HP2.out _ _ hI).1) i (by omega); rw [← Hp2.out] at c0; go_simp) rfl rfl ?_
      refine SeqA.pure (U8 y) (fun w' => by have h := HX1.out; go_simp) rfl rfl ?_
      refine SeqA.pure (.slice (some ⟨gc, oc, none⟩) o.length co) (fun w' => by go_simp) rfl rfl ?_
      refine SeqA.pure (.int .i64 i) (fun w' => by go_simp) rfl rfl ?_
      simp only [Act.put, List.setIfInBounds_toArray, List.set_cons_succ, List.set_cons_zero]
      refine SeqA.pure (.pointer (some ⟨gc, oc + i, none⟩)) (fun w' => by go_simp) rfl rfl ?_
      refine SeqA.read (U8 p3) (fun w' hI => by have c0 := bs_cell (SV.below HVO.out (T0.out _ _ hI).end_) i (by omega); rw [← Hp3.out] at c0; go_simp) rfl rfl ?_
      refine SeqA.pure (.slice (some ⟨gd, od, none⟩) b.length cb) (fun w' => by go_simp) rfl rfl ?_
      refine SeqA.pure (.int .i64 i) (fun w' => by go_simp) rfl rfl ?_
      refine SeqA.pure (.pointer (some ⟨gd, od + i, none⟩)) (fun w' => by go_simp) rfl rfl ?_
      refine SeqA.read (U8 p4) (fun w' hI => by have c0 := bs_cell (SV.below HVB.out (T0.out _ _ hI).end_) i (by omega); rw [← Hp4.out] at c0; go_simp) rfl rfl ?_
      simp only [Act.put, List.setIfInBounds_toArray, List.set_cons_succ, List.set_cons_zero]
      refine SeqA.pure (U8 y) (fun w' => by have h := HX2.out; go_simp) rfl rfl ?_
      refine SeqA.pure (.bool false) (fun w' => by go_simp) rfl rfl ?_
      refine SeqA.nil (fun w41 M42 hz => ?_)
      show wpT _ _ _ _ _ _
      simp only [Act.put, List.setIfInBounds_toArray, List.set_cons_succ, List.set_cons_zero]
      dsimp only [wpT]
      go_wp2_with fail
      go_roundw
      case rel => exact ⟨i + 1, by omega, by simp, M42⟩
      case measure => simp only [intOf]; omega
    · have : i = o.length := by omega
      subst this
      go_wp2_with fail
      go_ret
      exact ⟨rfl, (T0.out _ _ M).end_⟩
end Go.Proofs.YtbigmnhjnjeeaaaDoor
