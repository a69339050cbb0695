/-
  Law 08: alive, and what needs no reference; own work.
-/
import Derived.Test.YtbigmnhjnjeeaaaDoorLi4
set_option linter.unusedSimpArgs false
set_option linter.unusedVariables false
namespace Go.Proofs.YtbigmnhjnjeeaaaDoor
open Go.RowKit
theorem xb_key5 (w : World) : exBuild Tryd.prog 23 #[(0, .int .u8 5)] w = .ok (.value (.agg (cs U8 (5 :: zs 31)))) w := by
  unfold exBuild; rw [run_build w _ _ (cs U8 (5 :: zs 31)) (by kernel_rfl)]; rfl
theorem meet2 {A B : Sort _} {P G : A → B → Prop} {Goal : Prop} (h1 : (∀ x y, P x y → G x y) → Goal) (h2 : ∀ x y, P x y → G x y) : Goal := h1 h2
attribute [local irreducible] RR RQ Rds LP Li.lock Li.unlock Li.join
set_option maxRecDepth 100000 in
set_option maxHeartbeats 8000000 in
theorem alive8_c (w : World) (hT : KT w ∧ 0 < w.heap.size) : Calls Tryd.prog 15 #[] w fun e w' => e = .returned (.bool true) ∧ Below w.heap.size w w' := by
  obtain ⟨k, hk, hkb⟩ : ∃ k : Bs8, k.length = 32 ∧ ∀ w, exBuild Tryd.prog 23 #[(0, .int .u8 5)] w = .ok (.value (.agg (cs U8 k))) w := ⟨_, by simp [zs], xb_key5⟩
  obtain ⟨z, ez⟩ : ∃ z : Bs8, (zs 40 : Bs8) = z := ⟨_, rfl⟩
  obtain ⟨y, ey⟩ : ∃ y : Bs8, (zs 32 : Bs8) = y := ⟨_, rfl⟩
  have hz40 : z.length = 40 := by rw [← ez]; simp [zs]
  have hy32 : y.length = 32 := by rw [← ey]; simp [zs]
  obtain ⟨s, es⟩ : ∃ s, s = Li.lock k z := ⟨_, rfl⟩
  have hs : s.length = 40 := by rw [es, lock_len _ _ (by omega), hz40]
  have HU := hid (show z = Li.unlock k s by rw [es, unlock_lock _ _ (by omega)])
  have HS := hid es
  have HT := hid hT
  have HKB := hid hkb
  have HZ40 := hid ez
  have HZ32 := hid ey
  have T0 := back0 (S := no) (w0 := w)
  clear hT hkb ez ey es
  have M0 := Mm.start no w
  go_enter Tryd.func15, Tryd.ntmps15
  go_upto_region 1 with fail
  refine wp_region_lin (.op 0 (.op 1 (.op 2 .done))) (by rfl) ?_
  refine wpT_valL 8 (v := .agg (cs U8 k)) rfl rfl rfl (by have q := HKB.out w; go_simp) ?_
  refine wpT_new (z := .agg (cs U8 (zs 32))) 1 M0 (by kernel_rfl) (by decide) rfl rfl rfl rfl (fun b1 w2 M3 => ?_)
  try dsimp only [Value.cells] at M3
  refine wpT_st0 M3 0 (cs U8 k) inf_key rfl rfl rfl rfl (by go_simp) (by go_simp) (by simp [hk]) (by simp [hk]) (by simp [go_sem]) rfl (fun w4 M5 => ?_)
  dsimp only [List.set] at M5
  dsimp only [wpT]
  try simp only [Act.put, List.setIfInBounds_toArray, List.set_cons_succ, List.set_cons_zero]
  go_upto_region 2 with fail
  apply meet4 (P := fun (g : Nat) (A : Option Addr) (c : Nat) (w' : World) => ∃ S, Mm S w' [(b1, cs U8 k)] w' ∧ Hid (∀ H' w'', Mm S w' H' w'' → Mm no w H' w'') ∧ Hid (∀ H' w'', Mm S w' H' w'' → BS w'' (.slice A 40 c) s))
  case h1 =>
    intro rest
    refine wp_region_P [] (.both (.op 0 (.op 1 (.op 2 (.op 3 (.both (.op 4 (.both (.op 5 (.op 6 (.op 7 .done))) (.op 6 (.op 5 (.op 7 .done))))) (.op 5 (.op 4 (.op 6 (.op 7 .done))))))))) (.op 1 (.op 0 (.op 2 (.op 3 (.both (.op 4 (.both (.op 5 (.op 6 (.op 7 .done))) (.op 6 (.op 5 (.op 7 .done))))) (.op 5 (.op 4 (.op 6 (.op 7 .done)))))))))) (by kernel_rfl) (by kernel_rfl) (by kernel_rfl) (fun d _ _ _ _ h => by cases d <;> exact h) ?_
    show wpT _ _ _ _ _ _
    try simp only [Act.put, List.setIfInBounds_toArray, List.set_cons_succ, List.set_cons_zero]
    have M6 := M5.drewN 1
    change wpT _ _ _ _ _ (w4.drewN 1)
    obtain ⟨w7, hw7⟩ : ∃ w7, w7 = w4.drewN 1 := ⟨_, rfl⟩
    rw [← hw7] at M6 ⊢
    clear hw7
    refine ⟨?_, ?_⟩
    · refine wpT_ld0 10 Tryd.underlying23 rfl inf_key (b1) (cs U8 k) rfl rfl rfl (by go_simp) (M6.row (by simp)) (by simp [hk]) rfl ?_
      refine wpT_mkz 11 40 _ _ M6 rfl rfl rfl rfl (by go_simp) (by go_simp) (by decide) (fun g8 w9 x12 M10 B11 => ?_)
      replace x12 := x12.1
      rw [HZ40.out] at x12
      refine wpT_callN 12 M10 (l := s) (fun v => .tuple #[v, .int .i64 0]) rfl rfl rfl (by go_simp) (lock_v HS.out HT.out (T0.out _ _ M10).end_ hk x12 (by omega) (by omega)) (fun v13 w14 S16 M15 T17 K18 => ?_)
      replace T0 := backT T0 T17
      obtain ⟨A19, c20, rfl, -⟩ := (K18.out _ _ M15).1.shape' 40 hs
      refine wpT_valp 9 (v := .tuple #[.slice A19 40 c20, .int .i64 0]) rfl rfl rfl (by go_simp) ?_
      refine ⟨?_, ?_⟩
      · refine wpT_valp 13 (v := .slice A19 40 c20) rfl rfl rfl (by go_simp) ?_
        refine ⟨?_, ?_⟩
        · refine wpT_valp 14 (v := .int .i64 0) rfl rfl rfl (by go_simp) ?_
          refine wpT_valp 2 (v := .slice A19 40 c20) rfl rfl rfl (by go_simp) ?_
          refine wpT_valp 3 (v := .int .i64 0) rfl rfl rfl (by go_simp) ?_
          dsimp only [wpT]
          try simp only [Act.put, List.setIfInBounds_toArray, List.set_cons_succ, List.set_cons_zero]
          exact rest g8 A19 c20 _ ⟨_, M15, T0, hid fun H' w'' N => (K18.out _ _ N).1⟩
        · refine wpT_valp 2 (v := .slice A19 40 c20) rfl rfl rfl (by go_simp) ?_
          refine wpT_valp 14 (v := .int .i64 0) rfl rfl rfl (by go_simp) ?_
          refine wpT_valp 3 (v := .int .i64 0) rfl rfl rfl (by go_simp) ?_
          dsimp only [wpT]
          try simp only [Act.put, List.setIfInBounds_toArray, List.set_cons_succ, List.set_cons_zero]
          exact rest g8 A19 c20 _ ⟨_, M15, T0, hid fun H' w'' N => (K18.out _ _ N).1⟩
      · refine wpT_valp 14 (v := .int .i64 0) rfl rfl rfl (by go_simp) ?_
        refine wpT_valp 13 (v := .slice A19 40 c20) rfl rfl rfl (by go_simp) ?_
        refine wpT_valp 2 (v := .slice A19 40 c20) rfl rfl rfl (by go_simp) ?_
        refine wpT_valp 3 (v := .int .i64 0) rfl rfl rfl (by go_simp) ?_
        dsimp only [wpT]
        try simp only [Act.put, List.setIfInBounds_toArray, List.set_cons_succ, List.set_cons_zero]
        exact rest g8 A19 c20 _ ⟨_, M15, T0, hid fun H' w'' N => (K18.out _ _ N).1⟩
    · refine wpT_mkz 11 40 _ _ M6 rfl rfl rfl rfl (by go_simp) (by go_simp) (by decide) (fun g8 w9 x12 M10 B11 => ?_)
      replace x12 := x12.1
      rw [HZ40.out] at x12
      refine wpT_ld0 10 Tryd.underlying23 rfl inf_key (b1) (cs U8 k) rfl rfl rfl (by go_simp) (M10.row (by simp)) (by simp [hk]) rfl ?_
      refine wpT_callN 12 M10 (l := s) (fun v => .tuple #[v, .int .i64 0]) rfl rfl rfl (by go_simp) (lock_v HS.out HT.out (T0.out _ _ M10).end_ hk x12 (by omega) (by omega)) (fun v13 w14 S16 M15 T17 K18 => ?_)
      replace T0 := backT T0 T17
      obtain ⟨A19, c20, rfl, -⟩ := (K18.out _ _ M15).1.shape' 40 hs
      refine wpT_valp 9 (v := .tuple #[.slice A19 40 c20, .int .i64 0]) rfl rfl rfl (by go_simp) ?_
      refine ⟨?_, ?_⟩
      · refine wpT_valp 13 (v := .slice A19 40 c20) rfl rfl rfl (by go_simp) ?_
        refine ⟨?_, ?_⟩
        · refine wpT_valp 14 (v := .int .i64 0) rfl rfl rfl (by go_simp) ?_
          refine wpT_valp 2 (v := .slice A19 40 c20) rfl rfl rfl (by go_simp) ?_
          refine wpT_valp 3 (v := .int .i64 0) rfl rfl rfl (by go_simp) ?_
          dsimp only [wpT]
          try simp only [Act.put, List.setIfInBounds_toArray, List.set_cons_succ, List.set_cons_zero]
          exact rest g8 A19 c20 _ ⟨_, M15, T0, hid fun H' w'' N => (K18.out _ _ N).1⟩
        · refine wpT_valp 2 (v := .slice A19 40 c20) rfl rfl rfl (by go_simp) ?_
          refine wpT_valp 14 (v := .int .i64 0) rfl rfl rfl (by go_simp) ?_
          refine wpT_valp 3 (v := .int .i64 0) rfl rfl rfl (by go_simp) ?_
          dsimp only [wpT]
          try simp only [Act.put, List.setIfInBounds_toArray, List.set_cons_succ, List.set_cons_zero]
          exact rest g8 A19 c20 _ ⟨_, M15, T0, hid fun H' w'' N => (K18.out _ _ N).1⟩
      · refine wpT_valp 14 (v := .int .i64 0) rfl rfl rfl (by go_simp) ?_
        refine wpT_valp 13 (v := .slice A19 40 c20) rfl rfl rfl (by go_simp) ?_
        refine wpT_valp 2 (v := .slice A19 40 c20) rfl rfl rfl (by go_simp) ?_
        refine wpT_valp 3 (v := .int .i64 0) rfl rfl rfl (by go_simp) ?_
        dsimp only [wpT]
        try simp only [Act.put, List.setIfInBounds_toArray, List.set_cons_succ, List.set_cons_zero]
        exact rest g8 A19 c20 _ ⟨_, M15, T0, hid fun H' w'' N => (K18.out _ _ N).1⟩
  case h2 =>
    rintro g1 A1 c1 w1 ⟨S1, M1, T0, K1⟩
    go_upto_region 3 with fail
    refine wp_region_lin (.op 0 (.op 1 (.op 2 (.op 3 (.op 4 (.op 5 (.op 6 (.op 7 .done)))))))) (by rfl) ?_
    refine wpT_ld0 16 Tryd.underlying23 rfl inf_key (b1) (cs U8 k) rfl rfl rfl (by go_simp) (M1.row (by simp)) (by simp [hk]) rfl ?_
    refine wpT_valp 17 (v := .slice A1 40 c1) rfl rfl rfl (by go_simp) ?_
    refine wpT_callN 18 M1 (l := z) (fun v => .tuple #[v, .int .i64 0]) rfl rfl rfl (by go_simp) (unlock_v HU.out HT.out (T0.out _ _ M1).end_ hk (K1.out _ _ M1) (by omega) (by omega)) (fun v101 w102 S104 M103 T105 K106 => ?_)
    replace K1 := backT K1 T105
    replace T0 := backT T0 T105
    obtain ⟨A107, c108, rfl, -⟩ := (K106.out _ _ M103).1.shape' 40 hz40
    refine wpT_valp 15 (v := .tuple #[.slice A107 40 c108, .int .i64 0]) rfl rfl rfl (by go_simp) ?_
    try simp only [Act.put, List.setIfInBounds_toArray, List.set_cons_succ, List.set_cons_zero]
    refine wpT_valp 19 (v := .slice A107 40 c108) rfl rfl rfl (by go_simp) ?_
    refine wpT_valp 20 (v := .int .i64 0) rfl rfl rfl (by go_simp) ?_
    refine wpT_valp 4 (v := .slice A107 40 c108) rfl rfl rfl (by go_simp) ?_
    refine wpT_valp 5 (v := .int .i64 0) rfl rfl rfl (by go_simp) ?_
    dsimp only [wpT]
    try simp only [Act.put, List.setIfInBounds_toArray, List.set_cons_succ, List.set_cons_zero]
    go_upto_region 4 with fail
    apply meet2 (P := fun (g : Nat) (w' : World) => Mm S104 w102 [(b1, cs U8 k)] w')
    case h1 =>
      intro rest
      refine wp_region_P [] (.both (.op 0 (.op 1 (.op 2 (.op 3 (.both (.op 4 (.both (.op 5 (.op 6 (.op 7 .done))) (.op 6 (.op 5 (.op 7 .done))))) (.op 5 (.op 4 (.op 6 (.op 7 .done))))))))) (.op 1 (.op 0 (.op 2 (.op 3 (.both (.op 4 (.both (.op 5 (.op 6 (.op 7 .done))) (.op 6 (.op 5 (.op 7 .done))))) (.op 5 (.op 4 (.op 6 (.op 7 .done)))))))))) (by kernel_rfl) (by kernel_rfl) (by kernel_rfl) (fun d _ _ _ _ h => by cases d <;> exact h) ?_
      show wpT _ _ _ _ _ _
      try simp only [Act.put, List.setIfInBounds_toArray, List.set_cons_succ, List.set_cons_zero]
      have M109 := M103.drewN 1
      change wpT _ _ _ _ _ (w102.drewN 1)
      obtain ⟨w110, hw110⟩ : ∃ w110, w110 = w102.drewN 1 := ⟨_, rfl⟩
      rw [← hw110] at M109 ⊢
      clear hw110
      refine ⟨?_, ?_⟩
      · refine wpT_ld0 22 Tryd.underlying23 rfl inf_key (b1) (cs U8 k) rfl rfl rfl (by go_simp) (M109.row (by simp)) (by simp [hk]) rfl ?_
        refine wpT_mkz 23 32 _ _ M109 rfl rfl rfl rfl (by go_simp) (by go_simp) (by decide) (fun g111 w112 x115 M113 B114 => ?_)
        replace x115 := x115.1
        rw [HZ32.out] at x115
        refine wpT_callv 24 M113 (v := .tuple #[.slice none 0 0, .int .i64 4]) rfl rfl rfl (by go_simp) (Lock_e w112 k y _ 4 hk x115 (.inl ⟨by omega, rfl⟩)) (fun w116 M117 => ?_)
        refine wpT_valp 21 (v := .tuple #[.slice none 0 0, .int .i64 4]) rfl rfl rfl (by go_simp) ?_
        refine ⟨?_, ?_⟩
        · refine wpT_valp 25 (v := .slice none 0 0) rfl rfl rfl (by go_simp) ?_
          refine ⟨?_, ?_⟩
          · refine wpT_valp 26 (v := .int .i64 4) rfl rfl rfl (by go_simp) ?_
            refine wpT_valp 6 (v := .slice none 0 0) rfl rfl rfl (by go_simp) ?_
            refine wpT_valp 7 (v := .int .i64 4) rfl rfl rfl (by go_simp) ?_
            dsimp only [wpT]
            try simp only [Act.put, List.setIfInBounds_toArray, List.set_cons_succ, List.set_cons_zero]
            exact rest g111 _ M117
          · refine wpT_valp 6 (v := .slice none 0 0) rfl rfl rfl (by go_simp) ?_
            refine wpT_valp 26 (v := .int .i64 4) rfl rfl rfl (by go_simp) ?_
            refine wpT_valp 7 (v := .int .i64 4) rfl rfl rfl (by go_simp) ?_
            dsimp only [wpT]
            try simp only [Act.put, List.setIfInBounds_toArray, List.set_cons_succ, List.set_cons_zero]
            exact rest g111 _ M117
        · refine wpT_valp 26 (v := .int .i64 4) rfl rfl rfl (by go_simp) ?_
          refine wpT_valp 25 (v := .slice none 0 0) rfl rfl rfl (by go_simp) ?_
          refine wpT_valp 6 (v := .slice none 0 0) rfl rfl rfl (by go_simp) ?_
          refine wpT_valp 7 (v := .int .i64 4) rfl rfl rfl (by go_simp) ?_
          dsimp only [wpT]
          try simp only [Act.put, List.setIfInBounds_toArray, List.set_cons_succ, List.set_cons_zero]
          exact rest g111 _ M117
      · refine wpT_mkz 23 32 _ _ M109 rfl rfl rfl rfl (by go_simp) (by go_simp) (by decide) (fun g111 w112 x115 M113 B114 => ?_)
        replace x115 := x115.1
        rw [HZ32.out] at x115
        refine wpT_ld0 22 Tryd.underlying23 rfl inf_key (b1) (cs U8 k) rfl rfl rfl (by go_simp) (M113.row (by simp)) (by simp [hk]) rfl ?_
        refine wpT_callv 24 M113 (v := .tuple #[.slice none 0 0, .int .i64 4]) rfl rfl rfl (by go_simp) (Lock_e w112 k y _ 4 hk x115 (.inl ⟨by omega, rfl⟩)) (fun w116 M117 => ?_)
        refine wpT_valp 21 (v := .tuple #[.slice none 0 0, .int .i64 4]) rfl rfl rfl (by go_simp) ?_
        refine ⟨?_, ?_⟩
        · refine wpT_valp 25 (v := .slice none 0 0) rfl rfl rfl (by go_simp) ?_
          refine ⟨?_, ?_⟩
          · refine wpT_valp 26 (v := .int .i64 4) rfl rfl rfl (by go_simp) ?_
            refine wpT_valp 6 (v := .slice none 0 0) rfl rfl rfl (by go_simp) ?_
            refine wpT_valp 7 (v := .int .i64 4) rfl rfl rfl (by go_simp) ?_
            dsimp only [wpT]
            try simp only [Act.put, List.setIfInBounds_toArray, List.set_cons_succ, List.set_cons_zero]
            exact rest g111 _ M117
          · refine wpT_valp 6 (v := .slice none 0 0) rfl rfl rfl (by go_simp) ?_
            refine wpT_valp 26 (v := .int .i64 4) rfl rfl rfl (by go_simp) ?_
            refine wpT_valp 7 (v := .int .i64 4) rfl rfl rfl (by go_simp) ?_
            dsimp only [wpT]
            try simp only [Act.put, List.setIfInBounds_toArray, List.set_cons_succ, List.set_cons_zero]
            exact rest g111 _ M117
        · refine wpT_valp 26 (v := .int .i64 4) rfl rfl rfl (by go_simp) ?_
          refine wpT_valp 25 (v := .slice none 0 0) rfl rfl rfl (by go_simp) ?_
          refine wpT_valp 6 (v := .slice none 0 0) rfl rfl rfl (by go_simp) ?_
          refine wpT_valp 7 (v := .int .i64 4) rfl rfl rfl (by go_simp) ?_
          dsimp only [wpT]
          try simp only [Act.put, List.setIfInBounds_toArray, List.set_cons_succ, List.set_cons_zero]
          exact rest g111 _ M117
    case h2 =>
      rintro g2 w2 M2
      go_upto_region 5 with fail
      refine wp_region_P [0, 1, 2, 3, 4, 5, 6, 7, 8, 9, 10, 11, 12] (.both (.op 13 (.op 14 (.op 15 (.op 16 (.op 17 (.op 18 (.op 19 (.op 20 (.op 21 (.op 22 .done)))))))))) (.op 14 (.both (.op 13 (.op 15 (.op 16 (.op 17 (.op 18 (.op 19 (.op 20 (.op 21 (.op 22 .done))))))))) (.op 15 (.op 13 (.op 16 (.op 17 (.op 18 (.op 19 (.op 20 (.op 21 (.op 22 .done)))))))))))) (by kernel_rfl) (by kernel_rfl) (by kernel_rfl) (fun d _ _ _ _ h => by cases d <;> exact h) ?_
      refine wpYJd_op 27 (.int .i64 0) rfl rfl rfl (fun w1 _ => by go_simp) ?_
      refine wpYJd_op 28 (.bool true) rfl rfl rfl (fun w1 _ => by go_simp) ?_
      refine wpYJd_op 29 (.bool true) rfl rfl rfl (fun w1 _ => by go_simp) ?_
      refine wpYJd_op 30 (.slice A1 40 c1) rfl rfl (by simp [Region.wanted, yielded, Act.put]) (fun w1 _ => by go_simp) ?_
      refine wpYJd_op 31 (.int .i64 40) rfl rfl (by simp [Region.wanted, yielded, Act.put]) (fun w1 _ => by go_simp) ?_
      try simp only [Act.put, List.setIfInBounds_toArray, List.set_cons_succ, List.set_cons_zero]
      refine wpYJd_op 32 (.bool true) rfl rfl (by simp [Region.wanted, yielded, Act.put]) (fun w1 _ => by go_simp) ?_
      refine wpYJd_op 33 (.bool true) rfl rfl rfl (fun w1 _ => by go_simp) ?_
      refine wpYJd_op 34 (.bool true) rfl rfl rfl (fun w1 _ => by go_simp) ?_
      refine wpYJd_op 35 (.int .i64 0) rfl rfl (by simp [Region.wanted, yielded, Act.put]) (fun w1 _ => by go_simp) ?_
      refine wpYJd_op 36 (.bool true) rfl rfl (by simp [Region.wanted, yielded, Act.put]) (fun w1 _ => by go_simp) ?_
      refine wpYJd_op 37 (.bool true) rfl rfl rfl (fun w1 _ => by go_simp) ?_
      try simp only [Act.put, List.setIfInBounds_toArray, List.set_cons_succ, List.set_cons_zero]
      refine wpYJd_op 38 (.bool true) rfl rfl rfl (fun w1 _ => by go_simp) ?_
      refine wpYJd_op 39 (.slice A107 40 c108) rfl rfl (by simp [Region.wanted, yielded, Act.put]) (fun w1 _ => by go_simp) ?_
      show wpT _ _ _ _ _ _
      try simp only [Act.put, List.setIfInBounds_toArray, List.set_cons_succ, List.set_cons_zero]
      have M201 := M2.drewN 1
      change wpT _ _ _ _ _ (w2.drewN 1)
      obtain ⟨w202, hw202⟩ : ∃ w202, w202 = w2.drewN 1 := ⟨_, rfl⟩
      rw [← hw202] at M201 ⊢
      clear hw202
      refine ⟨?_, ?_⟩
      · refine wpT_valp 40 (v := .string (Bs z)) rfl rfl (by simp [Region.wanted, yielded, Act.put]) (by have s0 := bytes_str (K106.out _ _ M201).1; unfold Sv at s0; go_simp) ?_
        refine wpT_mkz 41 40 _ _ M201 rfl rfl rfl (by simp [Region.wanted, yielded, Act.put]) (by go_simp) (by go_simp) (by decide) (fun g203 w204 x207 M205 B206 => ?_)
        replace x207 := x207.1
        rw [HZ40.out] at x207
        refine wpT_valp 42 (v := .string (Bs z)) rfl rfl (by simp [Region.wanted, yielded, Act.put]) (by have s0 := bytes_str x207; unfold Sv at s0; go_simp) ?_
        refine wpT_valp 43 (v := .bool true) rfl rfl (by simp [Region.wanted, yielded, Act.put]) (by go_simp) ?_
        try simp only [Act.put, List.setIfInBounds_toArray, List.set_cons_succ, List.set_cons_zero]
        refine wpT_valp 44 (v := .bool true) rfl rfl rfl (by go_simp) ?_
        refine wpT_valp 45 (v := .bool true) rfl rfl rfl (by go_simp) ?_
        refine wpT_valp 46 (v := .int .i64 4) rfl rfl (by simp [Region.wanted, yielded, Act.put]) (by go_simp) ?_
        refine wpT_valp 47 (v := .bool true) rfl rfl (by simp [Region.wanted, yielded, Act.put]) (by go_simp) ?_
        refine wpT_valp 48 (v := .bool true) rfl rfl rfl (by go_simp) ?_
        try simp only [Act.put, List.setIfInBounds_toArray, List.set_cons_succ, List.set_cons_zero]
        refine wpT_valp 0 (v := .bool true) rfl rfl rfl (by go_simp) ?_
        dsimp only [wpT]
        try simp only [Act.put, List.setIfInBounds_toArray, List.set_cons_succ, List.set_cons_zero]
        go_wp2_with fail
        go_ret
        exact ⟨rfl, (T0.out _ _ M205).end_⟩
      · refine wpT_mkz 41 40 _ _ M201 rfl rfl rfl (by simp [Region.wanted, yielded, Act.put]) (by go_simp) (by go_simp) (by decide) (fun g203 w204 x207 M205 B206 => ?_)
        replace x207 := x207.1
        rw [HZ40.out] at x207
        refine ⟨?_, ?_⟩
        · refine wpT_valp 40 (v := .string (Bs z)) rfl rfl (by simp [Region.wanted, yielded, Act.put]) (by have s0 := bytes_str (K106.out _ _ M205).1; unfold Sv at s0; go_simp) ?_
          refine wpT_valp 42 (v := .string (Bs z)) rfl rfl (by simp [Region.wanted, yielded, Act.put]) (by have s0 := bytes_str x207; unfold Sv at s0; go_simp) ?_
          refine wpT_valp 43 (v := .bool true) rfl rfl (by simp [Region.wanted, yielded, Act.put]) (by go_simp) ?_
          refine wpT_valp 44 (v := .bool true) rfl rfl rfl (by go_simp) ?_
          try simp only [Act.put, List.setIfInBounds_toArray, List.set_cons_succ, List.set_cons_zero]
          refine wpT_valp 45 (v := .bool true) rfl rfl rfl (by go_simp) ?_
          refine wpT_valp 46 (v := .int .i64 4) rfl rfl (by simp [Region.wanted, yielded, Act.put]) (by go_simp) ?_
          refine wpT_valp 47 (v := .bool true) rfl rfl (by simp [Region.wanted, yielded, Act.put]) (by go_simp) ?_
          refine wpT_valp 48 (v := .bool true) rfl rfl rfl (by go_simp) ?_
          refine wpT_valp 0 (v := .bool true) rfl rfl rfl (by go_simp) ?_
          dsimp only [wpT]
          try simp only [Act.put, List.setIfInBounds_toArray, List.set_cons_succ, List.set_cons_zero]
          go_wp2_with fail
          go_ret
          exact ⟨rfl, (T0.out _ _ M205).end_⟩
        · refine wpT_valp 42 (v := .string (Bs z)) rfl rfl (by simp [Region.wanted, yielded, Act.put]) (by have s0 := bytes_str x207; unfold Sv at s0; go_simp) ?_
          refine wpT_valp 40 (v := .string (Bs z)) rfl rfl (by simp [Region.wanted, yielded, Act.put]) (by have s0 := bytes_str (K106.out _ _ M205).1; unfold Sv at s0; go_simp) ?_
          refine wpT_valp 43 (v := .bool true) rfl rfl (by simp [Region.wanted, yielded, Act.put]) (by go_simp) ?_
          refine wpT_valp 44 (v := .bool true) rfl rfl rfl (by go_simp) ?_
          try simp only [Act.put, List.setIfInBounds_toArray, List.set_cons_succ, List.set_cons_zero]
          refine wpT_valp 45 (v := .bool true) rfl rfl rfl (by go_simp) ?_
          refine wpT_valp 46 (v := .int .i64 4) rfl rfl (by simp [Region.wanted, yielded, Act.put]) (by go_simp) ?_
          refine wpT_valp 47 (v := .bool true) rfl rfl (by simp [Region.wanted, yielded, Act.put]) (by go_simp) ?_
          refine wpT_valp 48 (v := .bool true) rfl rfl rfl (by go_simp) ?_
          refine wpT_valp 0 (v := .bool true) rfl rfl rfl (by go_simp) ?_
          dsimp only [wpT]
          try simp only [Act.put, List.setIfInBounds_toArray, List.set_cons_succ, List.set_cons_zero]
          go_wp2_with fail
          go_ret
          exact ⟨rfl, (T0.out _ _ M205).end_⟩
end Go.Proofs.YtbigmnhjnjeeaaaDoor
