/-
  Law 14: a Rotor that no call made; own work.
-/
import Derived.Test.YtgclegdgngldoaaDoorL14a
set_option linter.unusedSimpArgs false
set_option linter.unusedVariables false
namespace Go.Proofs.YtgclegdgngldoaaDoor
open Go.RowKit Fp
theorem alive14_v {w0 w : World} (hT : KT w0 ∧ 0 < w0.heap.size) (hb : Below w0.heap.size w0 w) :
    Calls Tryd.prog 21 #[] w fun e w' => e = .returned (.bool true) ∧ Below w.heap.size w w' :=
  alive14 w ⟨hT.1.below hb hT.2, Nat.lt_of_lt_of_le hT.2 hb.size⟩
theorem xb_rot0 (w : World) : exBuild Tryd.prog 73 #[] w = .ok (.value (.agg (ROR (zs 32) (.slice none 0 0) 0))) w := by
  unfold exBuild; rw [run_build w _ _ (ROR (zs 32) (.slice none 0 0) 0) (by kernel_rfl)]; rfl
section
variable {S : Nat → Prop} {w0 w : World} {H : List (Nat × Array Value)}
theorem wpT_ptr2 {ops : Array Oper} {Q : Exit → Act → World → Prop} {i : Nat} {t : Tr} {a : Act} {o : Oper} (dst : Nat) (x : Operand) (M : Mm S w0 H w) (b : Nat) (hdst : o.dst = some dst) (ho : ops[i]? = some o) (hop : o.op = .buildSlice 74 2 #[(0, .const (.pointer none)), (1, x)])
    (hx : a.eval x = .pointer (some ⟨b, 0, none⟩)) (hw : Region.wanted o (yielded ops a.tmps) = true)
    (h : ∀ g w', Mm S w0 ((g, #[.pointer none, .pointer (some ⟨b, 0, none⟩)]) :: H) w' → wpT Tryd.prog ops Q t (a.put (some dst) (.slice (some ⟨g, 0, none⟩) 2 2)) w') : wpT Tryd.prog ops Q (.op i t) a w := by
  have hi : (Tryd.prog.info? 44).map (fun i => (i.zero, i.size, i.bytes)) = some (some (.pointer none), 1, 8) := by kernel_rfl
  obtain ⟨inf, hi0, hz0, hz1, hz2⟩ := info_parts hi
  have e : (Array.map (fun (x : Nat × Operand) => (x.1, a.eval x.2)) #[(0, .const (.pointer none)), (1, x)]).toList = [(0, .pointer none), (1, .pointer (some ⟨b, 0, none⟩))] := by simp [hx]; rfl
  refine wpT_bsl dst M _ inf _ Tryd.underlying74 hi0 hz0 (by rw [hz1]; decide) (by rw [hz1]; decide) (by decide) hdst ho hop ?_ hw (fun b w' M' _ _ => h b w' M')
  rw [hz1, e]
  have := fill_cat (fun i => some (i * 1, 1)) [(0, Value.pointer none), (1, Value.pointer (some ⟨b, 0, none⟩))] #[] ((Array.range (2 * 1)).map ((Value.pointer none).cells[· % (Value.pointer none).cells.size]!)) (by simp [Cont, Value.cells]) (by simp [catP, Value.cells])
  rw [Array.empty_append, Array.empty_append] at this
  rw [this]; simp [catP, Value.cells]
theorem pcell0 {g : Nat} {x y : Value} (h : w.rowOf g = #[x, y]) : w.cell? ⟨g, 0, none⟩ = some x := by rw [cell_rowOf, h]; rfl
theorem pcell1 {g : Nat} {x y : Value} (h : w.rowOf g = #[x, y]) : w.cell? ⟨g, 1, none⟩ = some y := by rw [cell_rowOf, h]; rfl
theorem good_zero {b : Nat} (hR : w.rowOf b = ROR (zs 32) (.slice none 0 0) 0) (hb : b < w.heap.size) :
    Hid (∀ w', Below w.heap.size w w' → Calls Tryd.prog 42 #[.pointer (some ⟨b, 0, none⟩)] w' fun e w'' => e = .returned (.bool false) ∧ Below w'.heap.size w' w'') :=
  hid fun w' h => good_c w' b (zs 32) none 0 0 0 (by simp) ((below_row h hb).trans hR) (Nat.lt_of_lt_of_le hb h.size)
end
attribute [local irreducible] ROR
set_option maxRecDepth 100000 in
set_option maxHeartbeats 4000000 in
theorem EpochNobody_w (w : World) (now : Int) (hT : KT w ∧ 0 < w.heap.size) :
    Calls Tryd.prog 10 #[.int .i64 now] w fun e w' => e = .returned (.bool true) ∧ Below w.heap.size w w' := by
  have HT := hid hT
  clear hT
  have M0 := Mm.start no w
  go_enter Tryd.func10, Tryd.ntmps10
  go_upto_region 1 with fail
  refine wp_region_lin (.op 0 (.op 1 .done)) (by rfl) ?_
  refine wpT_callv 7 M0 (v := .bool true) rfl rfl rfl (by go_simp) (alive14_v HT.out M0.end_) (fun w1 M2 => ?_)
  refine wpT_valp 8 (v := .bool false) rfl rfl rfl (by go_simp) ?_
  dsimp only [wpT]
  try simp only [Act.put, List.setIfInBounds_toArray, List.set_cons_succ, List.set_cons_zero]
  go_upto_region 3 with fail
  refine wp_region_lin (.op 0 (.op 1 (.op 2 (.op 3 (.op 4 .done))))) (by rfl) ?_
  refine wpT_valL 9 (v := .agg (ROR (zs 32) (.slice none 0 0) 0)) rfl rfl rfl (by have q := xb_rot0 w1; go_simp) ?_
  refine wpT_bxr (c := ROR (zs 32) (.slice none 0 0) 0) (T := 73) 10 M2 (by decide) rfl rfl rfl (by go_simp) (fun gb wB hgb MB => ?_)
  refine wpT_ptr2 11 _ MB gb rfl rfl rfl (by go_simp) rfl (fun gp wP MP => ?_)
  refine wpT_valp 12 (v := .int .i64 2) rfl rfl rfl (by go_simp) ?_
  try simp only [Act.put, List.setIfInBounds_toArray, List.set_cons_succ, List.set_cons_zero]
  refine wpT_valp 13 (v := .int .i64 0) rfl rfl rfl (by go_simp) ?_
  dsimp only [wpT]
  try simp only [Act.put, List.setIfInBounds_toArray, List.set_cons_succ, List.set_cons_zero]
  go_wp2_with fail
  go_loopw [13] (fun x wr => (x = .int .i64 0 ∨ x = .int .i64 1 ∨ x = .int .i64 2) ∧ Mm no w [(gp, #[.pointer none, .pointer (some ⟨gb, 0, none⟩)]), (gb, ROR (zs 32) (.slice none 0 0) 0)] wr) (fun x _ => 2 - (intOf x).toNat)
  case atStart => exact ⟨.inl rfl, MP⟩
  case round =>
    clear MP
    obtain ⟨rfl | rfl | rfl, M⟩ := hrel
    · skip
      go_upto_region 5 with fail
      refine wp_region_lin (.op 0 (.op 1 (.op 2 .done))) (by rfl) ?_
      refine wpT_valp 15 (v := .pointer (some ⟨gp, 0, none⟩)) rfl rfl rfl (by go_simp) ?_
      refine wpT_valp 16 (v := .pointer none) rfl rfl rfl (by have c0 := pcell0 (M.row (b := gp) (c := #[.pointer none, .pointer (some ⟨gb, 0, none⟩)]) (by simp)); go_simp) ?_
      refine wpT_valp 4 (v := .pointer none) rfl rfl rfl (by go_simp) ?_
      dsimp only [wpT]
      try simp only [Act.put, List.setIfInBounds_toArray, List.set_cons_succ, List.set_cons_zero]
      go_upto_region 6 with fail
      refine wp_region_lin (.op 0 (.op 1 (.op 2 (.op 3 (.op 4 (.op 5 (.op 6 (.op 7 .done)))))))) (by rfl) ?_
      refine wpT_valp 18 (v := .pointer none) rfl rfl rfl (by go_simp) ?_
      refine wpT_callv 19 M (v := .tuple #[.agg (cs U8 (zs 32)), .int .i64 0]) rfl rfl rfl (by go_simp) (public_nil wr _ (hid (fun w' h => rgood_nil w'))) (fun w1 M2 => ?_)
      refine wpT_valp 17 (v := .tuple #[.agg (cs U8 (zs 32)), .int .i64 0]) rfl rfl rfl (by go_simp) ?_
      refine wpT_valp 20 (v := .agg (cs U8 (zs 32))) rfl rfl rfl (by go_simp) ?_
      try simp only [Act.put, List.setIfInBounds_toArray, List.set_cons_succ, List.set_cons_zero]
      refine wpT_valp 21 (v := .int .i64 0) rfl rfl rfl (by go_simp) ?_
      refine wpT_new (z := .agg (cs U8 (zs 32))) 5 M2 (by kernel_rfl) (by decide) rfl rfl rfl rfl (fun b3 w4 M5 => ?_)
      try dsimp only [Value.cells] at M5
      refine wpT_st0 M5 0 (cs U8 (zs 32)) inf_key rfl rfl rfl rfl (by go_simp) (by go_simp) (by simp [ROR_size, zs_len]) (by simp [ROR_size, zs_len]) (by simp [go_sem]) rfl (fun w6 M7 => ?_)
      dsimp only [List.set] at M7
      refine wpT_valp 6 (v := .int .i64 0) rfl rfl rfl (by go_simp) ?_
      dsimp only [wpT]
      try simp only [Act.put, List.setIfInBounds_toArray, List.set_cons_succ, List.set_cons_zero]
      go_upto_region 7 with fail
      refine wp_region_lin (.op 0 (.op 1 (.op 2 (.op 3 (.op 4 (.op 5 (.op 6 (.op 7 (.op 8 (.op 9 (.op 10 (.op 11 (.op 12 (.op 13 (.op 14 (.op 15 (.op 16 (.op 17 (.op 18 (.op 19 (.op 20 (.op 21 (.op 22 (.op 23 (.op 24 .done))))))))))))))))))))))))) (by rfl) ?_
      refine wpT_valp 22 (v := .pointer none) rfl rfl rfl (by go_simp) ?_
      refine wpT_valp 23 (v := .int .i64 now) rfl rfl rfl (by go_simp) ?_
      refine wpT_callv 24 M7 (v := .int .i64 0) rfl rfl rfl (by go_simp) (tick_nil w6 _ now (hid (fun w' h => rgood_nil w'))) (fun w8 M9 => ?_)
      refine wpT_valp 25 (v := .bool false) rfl rfl rfl (by go_simp) ?_
      try simp only [Act.put, List.setIfInBounds_toArray, List.set_cons_succ, List.set_cons_zero]
      refine wpT_valp 26 (v := .bool false) rfl rfl rfl (by go_simp) ?_
      refine wpT_valp 27 (v := .pointer none) rfl rfl (by simp [Region.wanted, yielded, Act.put]) (by go_simp) ?_
      refine wpT_valp 28 (v := .int .i64 now) rfl rfl (by simp [Region.wanted, yielded, Act.put]) (by go_simp) ?_
      refine wpT_callv 29 M9 (v := .int .i64 1) rfl rfl (by simp [Region.wanted, yielded, Act.put]) (by go_simp) (restart_nil w8 _ now (hid (fun w' h => rgood_nil w'))) (fun w10 M11 => ?_)
      refine wpT_valp 30 (v := .bool false) rfl rfl (by simp [Region.wanted, yielded, Act.put]) (by go_simp) ?_
      try simp only [Act.put, List.setIfInBounds_toArray, List.set_cons_succ, List.set_cons_zero]
      refine wpT_valp 31 (v := .bool false) rfl rfl rfl (by go_simp) ?_
      refine wpT_valp 32 (v := .bool false) rfl rfl rfl (by go_simp) ?_
      refine wpT_valp 33 (v := .pointer none) rfl rfl (by simp [Region.wanted, yielded, Act.put]) (by go_simp) ?_
      refine wpT_callv 34 M11 (v := .slice none 0 0) rfl rfl (by simp [Region.wanted, yielded, Act.put]) (by go_simp) (open_nil w10 _ (hid (fun w' h => rgood_nil w'))) (fun w12 M13 => ?_)
      refine wpT_valp 35 (v := .int .i64 0) rfl rfl (by simp [Region.wanted, yielded, Act.put]) (by go_simp) ?_
      try simp only [Act.put, List.setIfInBounds_toArray, List.set_cons_succ, List.set_cons_zero]
      refine wpT_valp 36 (v := .bool false) rfl rfl (by simp [Region.wanted, yielded, Act.put]) (by go_simp) ?_
      refine wpT_valp 37 (v := .bool false) rfl rfl rfl (by go_simp) ?_
      refine wpT_valp 38 (v := .bool false) rfl rfl rfl (by go_simp) ?_
      refine wpT_ld0 39 Tryd.underlying23 rfl inf_key (b3) (cs U8 (zs 32)) rfl rfl rfl (by go_simp) (M13.row (b := b3) (c := cs U8 (zs 32)) (by simp)) (by simp [ROR_size, zs_len]) (by simp [Region.wanted, yielded, Act.put]) ?_
      refine wpT_valL 40 (v := .agg (cs U8 (zs 32))) rfl rfl (by simp [Region.wanted, yielded, Act.put]) (by have q := xb_kz w12; go_simp) ?_
      try simp only [Act.put, List.setIfInBounds_toArray, List.set_cons_succ, List.set_cons_zero]
      refine wpT_valp 41 (v := .bool false) rfl rfl (by simp [Region.wanted, yielded, Act.put]) (by have q := eqKk w12 (zs 32) (by simp); go_simp) ?_
      refine wpT_valp 42 (v := .bool false) rfl rfl rfl (by go_simp) ?_
      refine wpT_valp 43 (v := .bool false) rfl rfl rfl (by go_simp) ?_
      refine wpT_valp 44 (v := .int .i64 0) rfl rfl (by simp [Region.wanted, yielded, Act.put]) (by go_simp) ?_
      refine wpT_valp 45 (v := .bool false) rfl rfl (by simp [Region.wanted, yielded, Act.put]) (by go_simp) ?_
      try simp only [Act.put, List.setIfInBounds_toArray, List.set_cons_succ, List.set_cons_zero]
      refine wpT_valp 46 (v := .bool false) rfl rfl rfl (by go_simp) ?_
      dsimp only [wpT]
      try simp only [Act.put, List.setIfInBounds_toArray, List.set_cons_succ, List.set_cons_zero]
      go_wp2_with fail
      go_roundw
      case rel => exact ⟨.inr (.inl rfl), M13.sub (by simp)⟩
      case measure => simp [intOf]
    · skip
      go_upto_region 5 with fail
      refine wp_region_lin (.op 0 (.op 1 (.op 2 .done))) (by rfl) ?_
      refine wpT_valp 15 (v := .pointer (some ⟨gp, 1, none⟩)) rfl rfl rfl (by go_simp) ?_
      refine wpT_valp 16 (v := .pointer (some ⟨gb, 0, none⟩)) rfl rfl rfl (by have c0 := pcell1 (M.row (b := gp) (c := #[.pointer none, .pointer (some ⟨gb, 0, none⟩)]) (by simp)); go_simp) ?_
      refine wpT_valp 4 (v := .pointer (some ⟨gb, 0, none⟩)) rfl rfl rfl (by go_simp) ?_
      dsimp only [wpT]
      try simp only [Act.put, List.setIfInBounds_toArray, List.set_cons_succ, List.set_cons_zero]
      go_upto_region 6 with fail
      refine wp_region_lin (.op 0 (.op 1 (.op 2 (.op 3 (.op 4 (.op 5 (.op 6 (.op 7 .done)))))))) (by rfl) ?_
      refine wpT_valp 18 (v := .pointer (some ⟨gb, 0, none⟩)) rfl rfl rfl (by go_simp) ?_
      refine wpT_callv 19 M (v := .tuple #[.agg (cs U8 (zs 32)), .int .i64 0]) rfl rfl rfl (by go_simp) (public_nil wr _ (good_zero (M.row (b := gb) (c := ROR (zs 32) (.slice none 0 0) 0) (by simp)) (M.lt (b := gb) (c := ROR (zs 32) (.slice none 0 0) 0) (by simp)))) (fun w1 M2 => ?_)
      refine wpT_valp 17 (v := .tuple #[.agg (cs U8 (zs 32)), .int .i64 0]) rfl rfl rfl (by go_simp) ?_
      refine wpT_valp 20 (v := .agg (cs U8 (zs 32))) rfl rfl rfl (by go_simp) ?_
      try simp only [Act.put, List.setIfInBounds_toArray, List.set_cons_succ, List.set_cons_zero]
      refine wpT_valp 21 (v := .int .i64 0) rfl rfl rfl (by go_simp) ?_
      refine wpT_new (z := .agg (cs U8 (zs 32))) 5 M2 (by kernel_rfl) (by decide) rfl rfl rfl rfl (fun b3 w4 M5 => ?_)
      try dsimp only [Value.cells] at M5
      refine wpT_st0 M5 0 (cs U8 (zs 32)) inf_key rfl rfl rfl rfl (by go_simp) (by go_simp) (by simp [ROR_size, zs_len]) (by simp [ROR_size, zs_len]) (by simp [go_sem]) rfl (fun w6 M7 => ?_)
      dsimp only [List.set] at M7
      refine wpT_valp 6 (v := .int .i64 0) rfl rfl rfl (by go_simp) ?_
      dsimp only [wpT]
      try simp only [Act.put, List.setIfInBounds_toArray, List.set_cons_succ, List.set_cons_zero]
      go_upto_region 7 with fail
      refine wp_region_lin (.op 0 (.op 1 (.op 2 (.op 3 (.op 4 (.op 5 (.op 6 (.op 7 (.op 8 (.op 9 (.op 10 (.op 11 (.op 12 (.op 13 (.op 14 (.op 15 (.op 16 (.op 17 (.op 18 (.op 19 (.op 20 (.op 21 (.op 22 (.op 23 (.op 24 .done))))))))))))))))))))))))) (by rfl) ?_
      refine wpT_valp 22 (v := .pointer (some ⟨gb, 0, none⟩)) rfl rfl rfl (by go_simp) ?_
      refine wpT_valp 23 (v := .int .i64 now) rfl rfl rfl (by go_simp) ?_
      refine wpT_callv 24 M7 (v := .int .i64 0) rfl rfl rfl (by go_simp) (tick_nil w6 _ now (good_zero (M7.row (b := gb) (c := ROR (zs 32) (.slice none 0 0) 0) (by simp)) (M7.lt (b := gb) (c := ROR (zs 32) (.slice none 0 0) 0) (by simp)))) (fun w8 M9 => ?_)
      refine wpT_valp 25 (v := .bool false) rfl rfl rfl (by go_simp) ?_
      try simp only [Act.put, List.setIfInBounds_toArray, List.set_cons_succ, List.set_cons_zero]
      refine wpT_valp 26 (v := .bool false) rfl rfl rfl (by go_simp) ?_
      refine wpT_valp 27 (v := .pointer (some ⟨gb, 0, none⟩)) rfl rfl (by simp [Region.wanted, yielded, Act.put]) (by go_simp) ?_
      refine wpT_valp 28 (v := .int .i64 now) rfl rfl (by simp [Region.wanted, yielded, Act.put]) (by go_simp) ?_
      refine wpT_callv 29 M9 (v := .int .i64 1) rfl rfl (by simp [Region.wanted, yielded, Act.put]) (by go_simp) (restart_nil w8 _ now (good_zero (M9.row (b := gb) (c := ROR (zs 32) (.slice none 0 0) 0) (by simp)) (M9.lt (b := gb) (c := ROR (zs 32) (.slice none 0 0) 0) (by simp)))) (fun w10 M11 => ?_)
      refine wpT_valp 30 (v := .bool false) rfl rfl (by simp [Region.wanted, yielded, Act.put]) (by go_simp) ?_
      try simp only [Act.put, List.setIfInBounds_toArray, List.set_cons_succ, List.set_cons_zero]
      refine wpT_valp 31 (v := .bool false) rfl rfl rfl (by go_simp) ?_
      refine wpT_valp 32 (v := .bool false) rfl rfl rfl (by go_simp) ?_
      refine wpT_valp 33 (v := .pointer (some ⟨gb, 0, none⟩)) rfl rfl (by simp [Region.wanted, yielded, Act.put]) (by go_simp) ?_
      refine wpT_callv 34 M11 (v := .slice none 0 0) rfl rfl (by simp [Region.wanted, yielded, Act.put]) (by go_simp) (open_nil w10 _ (good_zero (M11.row (b := gb) (c := ROR (zs 32) (.slice none 0 0) 0) (by simp)) (M11.lt (b := gb) (c := ROR (zs 32) (.slice none 0 0) 0) (by simp)))) (fun w12 M13 => ?_)
      refine wpT_valp 35 (v := .int .i64 0) rfl rfl (by simp [Region.wanted, yielded, Act.put]) (by go_simp) ?_
      try simp only [Act.put, List.setIfInBounds_toArray, List.set_cons_succ, List.set_cons_zero]
      refine wpT_valp 36 (v := .bool false) rfl rfl (by simp [Region.wanted, yielded, Act.put]) (by go_simp) ?_
      refine wpT_valp 37 (v := .bool false) rfl rfl rfl (by go_simp) ?_
      refine wpT_valp 38 (v := .bool false) rfl rfl rfl (by go_simp) ?_
      refine wpT_ld0 39 Tryd.underlying23 rfl inf_key (b3) (cs U8 (zs 32)) rfl rfl rfl (by go_simp) (M13.row (b := b3) (c := cs U8 (zs 32)) (by simp)) (by simp [ROR_size, zs_len]) (by simp [Region.wanted, yielded, Act.put]) ?_
      refine wpT_valL 40 (v := .agg (cs U8 (zs 32))) rfl rfl (by simp [Region.wanted, yielded, Act.put]) (by have q := xb_kz w12; go_simp) ?_
      try simp only [Act.put, List.setIfInBounds_toArray, List.set_cons_succ, List.set_cons_zero]
      refine wpT_valp 41 (v := .bool false) rfl rfl (by simp [Region.wanted, yielded, Act.put]) (by have q := eqKk w12 (zs 32) (by simp); go_simp) ?_
      refine wpT_valp 42 (v := .bool false) rfl rfl rfl (by go_simp) ?_
      refine wpT_valp 43 (v := .bool false) rfl rfl rfl (by go_simp) ?_
      refine wpT_valp 44 (v := .int .i64 0) rfl rfl (by simp [Region.wanted, yielded, Act.put]) (by go_simp) ?_
      refine wpT_valp 45 (v := .bool false) rfl rfl (by simp [Region.wanted, yielded, Act.put]) (by go_simp) ?_
      try simp only [Act.put, List.setIfInBounds_toArray, List.set_cons_succ, List.set_cons_zero]
      refine wpT_valp 46 (v := .bool false) rfl rfl rfl (by go_simp) ?_
      dsimp only [wpT]
      try simp only [Act.put, List.setIfInBounds_toArray, List.set_cons_succ, List.set_cons_zero]
      go_wp2_with fail
      go_roundw
      case rel => exact ⟨.inr (.inr rfl), M13.sub (by simp)⟩
      case measure => simp [intOf]
    · go_wp2_with fail
      go_ret
      exact ⟨rfl, M.end_⟩
end Go.Proofs.YtgclegdgngldoaaDoor
