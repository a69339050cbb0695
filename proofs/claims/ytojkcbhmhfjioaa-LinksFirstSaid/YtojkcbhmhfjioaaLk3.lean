/-
  Package links: behind, Put, Take, Twice, Turn, Len; own work.
-/
import Derived.Test.YtojkcbhmhfjioaaLk2
set_option linter.unusedSimpArgs false
set_option linter.unusedVariables false
namespace Go.Proofs.Ytojkcbhmhfjioaa
open Go.RowKit Lk
section
variable {w wz : World} {B b : Nat} {room : Int} {L : List It} {v : Value}
theorem LO.nHF (R : LO w B b room L v) {g : Nat} (hg : g ∈ L.map It.g) : ¬ HF b v g := by
  rintro (rfl | h)
  · exact R.ne (.inr hg)
  · exact R.ao.nv g h hg
theorem LO.item (R : LO w B b room L v) (hf : Fr (HF b v) w wz) {x : It} (hx : x ∈ L) : x.l.length = 736 ∧ OB wz B x.v x.l :=
  ⟨(R.ao.pk x hx).1, (R.ao.pk x hx).2.fr' hf (fun g hg => by
    simp only [It.v, Value.ownBlock, Option.some.injEq] at hg; subst hg
    exact R.nHF (List.mem_map.2 ⟨x, hx, rfl⟩))⟩
theorem HF.lf {g : Nat} (h : HF b v g) : LF b v L g := h.imp id .inl
/-- what Take leaves behind -/
def TPost (w : World) (B b : Nat) (room : Int) (v : Value) (L : List It) (M2 : List Pa) (x : Pa) (yn : Nat) (q : Int) : Ending → World → Prop := fun e w' =>
  ∃ (L' : List It) (v' : Value) (y : Option Addr × Nat), e = .returned (.tuple #[.agg (ITR x.1 (.slice y.1 yn y.2)), .int .i64 q]) ∧ LO w' B b room L' v' ∧ L'.map It.ab = M2 ∧ Fr (LF b v L) w w' ∧ (∀ g, LF b v' L' g → LF b v L g ∨ w.heap.size ≤ g) ∧
    x.2.length = yn ∧ BS w' (.slice y.1 yn y.2) x.2 ∧ ∀ g, (Value.slice y.1 yn y.2).ownBlock = some g → (LF b v L g ∧ ¬ LF b v' L' g)
theorem TPost.same {w' : World} (R : LO w B b room L v) (hb : Below w.heap.size w w') : TPost w B b room v L (L.map It.ab) (0, []) 0 9 (.returned (.tuple #[.agg (ITR 0 (.slice none 0 0)), .int .i64 9])) w' :=
  ⟨L, v, (none, 0), rfl, R.below hb, rfl, Fr.of_below hb, fun g hg => .inl hg, rfl, ⟨_, _, rfl, Nat.le_refl _, Nat.zero_le _, fun h => absurd rfl h⟩, fun g hg => by simp [Value.ownBlock] at hg⟩
end
theorem OB.setc {w : World} {base g n cap : Nat} {l : B8} (h : OB w base (.slice (some ⟨g, 0, none⟩) n cap) l) (hn : l.length = n) (i : Nat) (hi : i < n) (x : BitVec 8) :
    w.free g = true ∧ i < (w.rowOf g).size ∧ OB (w.setRow g ((w.rowOf g).setIfInBounds i (U8 x))) base (.slice (some ⟨g, 0, none⟩) n cap) (l.set i x) := by
  subst hn
  obtain ⟨h1, ⟨e, _⟩ | ⟨g', cap', cur, e, hb, hg, hc, hm, hs, ht⟩⟩ := h
  · cases e
  · injection e with e1 _ e3
    injection e1 with e1
    injection e1 with e1 _ _
    subst e1; subst e3
    have hr : w.rowOf g = cur := by simp [World.rowOf, hg]
    refine ⟨by simp [World.free, hg], by rw [hr]; omega, by simp, .inr ⟨g, cap, cur.setIfInBounds i (U8 x), by simp, hb, ?_, by simpa using hc, hm, by simpa using hs, ?_⟩⟩
    · rw [hr]; exact heap_setRow_same hg
    · rw [Array.toList_setIfInBounds, List.map_set, ← ht]
      simp only [List.length_set]
      rw [List.take_set]
theorem wpT_stb {P : Program} {ops : Array Oper} {Q : Exit → Act → World → Prop} {i : Nat} {t : Tr} {a : Act} {o : Oper} {w : World} {T : TypeId} {p x : Operand} {b off : Nat} (v : Value) (hi : (P.info? T).map (·.size) = some 1) (ho : ops[i]? = some o) (hop : o.op = .store T p x) (hd : o.dst = none)
    (hp : a.eval p = .pointer (some ⟨b, off, none⟩)) (hx : a.eval x = v) (hoff : off < (w.rowOf b).size) (hv : ones1 v = true) (hf : w.free b = true) (hw : Region.wanted o (yielded ops a.tmps) = true)
    (h : wpT P ops Q t a (w.setRow b ((w.rowOf b).setIfInBounds off v))) : wpT P ops Q (.op i t) a w := by
  refine wpT_run (w' := w.setRow b ((w.rowOf b).setIfInBounds off v)) ho hw ?_ ?_
  · obtain ⟨dst, op, ty, pos, after, guard⟩ := o
    subst hop
    rw [x_store, hp, hx, x_storec hi w b off v hv hoff hf]
  · rw [hd]; exact h
theorem bs_cell0 {w : World} {b n c : Nat} {l : B8} (h : BS w (.slice (some ⟨b, 0, none⟩) n c) l) (i : Nat) (hi : i < l.length) : w.cell? ⟨b, i, none⟩ = some (U8 (l.getD i 0)) := by
  obtain ⟨b', o', c', e, _, h3⟩ := h.open (by intro e; rw [e] at hi; simp at hi)
  injection e with e _ _
  injection e with e
  injection e with e1 e2 _
  subst e1; subst e2
  have := h3 i hi
  rwa [Nat.zero_add] at this
set_option maxRecDepth 100000
attribute [local irreducible] STR RSR wpT
set_option maxHeartbeats 4000000 in
theorem behind_c (w : World) (B b : Nat) (room : Int) (L : List It) (v : Value) (R : LO w B b room L v) (hrm0 : 0 ≤ room) (too : Int) (u : Value) (l : B8) (hB : BS w u l) (hl : l.length = 736) (h9 : L.length ≤ 5000) {M2 : List Pa} {q : Int} (hres : Lk.behind room.toNat (L.map It.ab) (too, l) = (M2, q)) :
    Calls Try.prog 47 #[.pointer (some ⟨b, 0, none⟩), .agg (ITR too u)] w (LPost w B b room v L (M2, q)) := by
  have hBw : B ≤ w.heap.size := by have := R.lt b (.inl rfl); omega
  have hbw : b < w.heap.size := (R.lt b (.inl rfl)).2
  have HR := hid R
  have HROW : Hid (∀ w', Below w.heap.size w w' → w'.rowOf b = STR room v) := hid fun w' h => (R.below h).rowOf
  obtain ⟨ug, uo, uc, rfl, _, _⟩ := hB.open (by intro e; rw [e] at hl; cases hl)
  rw [hl] at hB ⊢
  have HBS : Hid (∀ w', Below w.heap.size w w' → BS w' (.slice (some ⟨ug, uo, none⟩) 736 uc) l) := hid fun w' h => SV.below hB h
  have HLL := hid hl
  obtain ⟨va, vc, hv, _⟩ := R.ao.ow.shape
  obtain ⟨m, hm⟩ : ∃ n, L.length = n := ⟨_, rfl⟩
  have HLM := hid hm
  rw [hm] at hv
  subst hv
  unfold Lk.behind at hres
  rw [List.length_map, hm] at hres
  by_cases hfull : room ≤ (m : Int)
  · rw [if_pos (by omega)] at hres
    injection hres with h1 h2
    subst h1; subst h2
    clear R hB hl hm
    have M0 := Mm.start no w
    go_enter Try.func47, Try.ntmps47
    have M2 := (M0.alloc (ITR too (.slice (some ⟨ug, uo, none⟩) 736 uc)) 72 (by decide))
    try simp only [World.size_alloc] at M2
    go_upto_region 1 with fail
    obtain ⟨w1, hw1⟩ : ∃ w1, w1 = (w.alloc (.cells (ITR too (.slice (some ⟨ug, uo, none⟩) 736 uc)) 72)) := ⟨_, rfl⟩
    rw [← hw1] at M2 ⊢
    clear hw1
    refine wp_region_X (fun v => v.rowOf b = STR room (.slice va m vc)) (.yld [0, 1, 2, 3, 4, 5, 6, 7, 8, 9] .done) (by kernel_rfl) (by kernel_rfl) (by kernel_rfl) (fun d _ _ _ _ h => by cases d <;> exact h) ?_
    have M3 := M2.drewN 1
    change wpX _ _ _ _ _ _ (w1.drewN 1)
    obtain ⟨w4, hw4⟩ : ∃ w4, w4 = w1.drewN 1 := ⟨_, rfl⟩
    rw [← hw4] at M3 ⊢
    clear hw4
    refine wpX_yld ?_
    refine wpYJd_op 5 (.pointer (some ⟨b, 0, none⟩)) rfl rfl rfl (fun w1 h => by go_simp) ?_
    refine wpYJd_op 6 (.pointer (some ⟨b, 0, none⟩)) rfl rfl rfl (fun w1 h => by go_simp) ?_
    refine wpYJd_op 7 (.pointer (some ⟨b, 1, none⟩)) rfl rfl rfl (fun w1 h => by go_simp) ?_
    refine wpYJd_op 8 (.slice va m vc) rfl rfl rfl (fun w1 h => by have c0 := st_c1 (h); go_simp) ?_
    refine wpYJd_op 9 (.int .i64 m) rfl rfl rfl (fun w1 h => by go_simp) ?_
    try simp only [Act.put, List.setIfInBounds_toArray, List.set_cons_succ, List.set_cons_zero]
    refine wpYJd_op 10 (.pointer (some ⟨b, 0, none⟩)) rfl rfl rfl (fun w1 h => by go_simp) ?_
    refine wpYJd_op 11 (.pointer (some ⟨b, 0, none⟩)) rfl rfl rfl (fun w1 h => by go_simp) ?_
    refine wpYJd_op 12 (.pointer (some ⟨b, 0, none⟩)) rfl rfl rfl (fun w1 h => by go_simp) ?_
    refine wpYJd_op 13 (.int .i64 room) rfl rfl rfl (fun w1 h => by have c0 := st_c0 (h); go_simp) ?_
    refine wpYJd_op 14 (.bool true) rfl rfl rfl (fun w1 h => by go_simp) ?_
    show wpX _ _ _ _ _ _ _
    try simp only [Act.put, List.setIfInBounds_toArray, List.set_cons_succ, List.set_cons_zero]
    refine ⟨(by exact (HROW.out _ M3.end_)), ?_⟩
    try simp only [Act.put, List.setIfInBounds_toArray, List.set_cons_succ, List.set_cons_zero]
    go_upto_region 2 with fail
    refine wp_region_lin (.op 0 .done) (by rfl) ?_
    refine wpT_valp 4 (v := .int .i64 8) rfl rfl rfl (by go_simp) ?_
    first | dsimp only [wpT] | refine wpT_fin ?_
    try simp only [Act.put, List.setIfInBounds_toArray, List.set_cons_succ, List.set_cons_zero]
    go_wp2_with fail
    go_ret
    exact LPost.same HR.out M3.end_ _
  · rw [if_neg (by omega)] at hres
    injection hres with h1 h2
    have hm9 : m ≤ 5000 := by omega
    have HSEP : Hid (∀ (c c' : Array Value) (x : Nat), obk (.slice va m vc) = some x → (HF b (.slice va m vc) x ∨ w.heap.size ≤ x) ∧ ∀ q ∈ [(b, c), (w.heap.size, c')], q.1 ≠ x) := hid fun c c' x hx => by
      have h1 := HR.out.lt x (.inr (.inl hx))
      refine ⟨.inl (.inr hx), fun q hq e => ?_⟩
      simp only [List.mem_cons, List.not_mem_nil, or_false] at hq
      rcases hq with rfl | rfl
      · dsimp only at e; rw [← e] at hx; exact HR.out.ne (.inl hx)
      · dsimp only at e; omega
    have HFIN : Hid (∀ (w5 wgx wA : World) (ua2 : Value) (p : Nat × Nat), w.heap.size < w5.heap.size → w.heap.size < wgx.heap.size → OB wgx w5.heap.size (.slice (some ⟨p.1, 0, none⟩) 736 p.2) l → wgx.grownBy wA (obk (.slice va m vc)) → (∀ g, obk ua2 = some g → obk (.slice va m vc) = some g ∨ g = wgx.heap.size) →
        Ow wA B 2 ua2 (m + 1) (fl eI L ++ eI ⟨too, p.1, p.2, l⟩) → ∀ (S2 : Nat → Prop) (c c' : Array Value) (H : List (Nat × Array Value)) (wz : World), (∀ g, S2 g → g ∈ [(b, c), (w.heap.size, c')].map (·.1)) → Mm S2 wA H wz → Mm (HF b (.slice va m vc)) w H wz → (b, STR room ua2) ∈ H →
        LPost w B b room (.slice va m vc) L (M2, q) (.returned (.int .i64 q)) wz) := by
      refine hid fun w5 wgx wA ua2 p h5 hgx hO hG BA OA S2 c c' H wz hS2 M1 MZ hmm => ?_
      have hp : w5.heap.size ≤ p.1 ∧ p.1 < wgx.heap.size := hO.at_ p.1 rfl
      have hBAz : ∀ g, obk ua2 = some g → obk (.slice va m vc) = some g ∨ w.heap.size < g := fun g hg => (BA g hg).imp id (fun e => by omega)
      have hnS : ∀ g, B ≤ g → g ≠ b → g ≠ w.heap.size → ¬ S2 g := fun g h0 h1 h2 h3 => by
        have := hS2 g h3
        simp only [List.map_cons, List.map_nil, List.mem_cons, List.not_mem_nil, or_false] at this
        rcases this with e | e
        · exact h1 e
        · exact h2 e
      have hvb : ∀ g, obk (.slice va m vc) = some g → g ≠ b ∧ g < w.heap.size := fun g hg => ⟨fun e => HR.out.ne (.inl (by rw [← e]; exact hg)), (HR.out.lt g (.inr (.inl hg))).2⟩
      have hpL : p.1 ∉ L.map It.g := fun h => by have := (HR.out.lt p.1 (.inr (.inr h))).2; omega
      obtain ⟨_, T, hT, hrow⟩ := MZ.own _ hmm
      refine ⟨L ++ [⟨too, p.1, p.2, l⟩], ua2, rfl, ⟨⟨T, hT, hrow⟩, HR.out.bb, ⟨?_, ?_, ?_, ?_⟩, ?_⟩, ?_, MZ.fr.mono (fun _ _ h => HF.lf h), ?_⟩
      · rw [List.length_append, HLM.out, fl_append, fl_one]
        refine OA.fr M1.fr (fun g hg => hnS g (OA.at_ g hg).1 ?_ ?_)
        · rcases hBAz g hg with h | h
          · exact (hvb g h).1
          · omega
        · rcases hBAz g hg with h | h
          · have := (hvb g h).2; omega
          · omega
      · intro x hx
        rcases List.mem_append.1 hx with hx | hx
        · exact HR.out.item MZ.fr hx
        · rw [List.mem_singleton] at hx
          subst hx
          refine ⟨HLL.out, ?_⟩
          have h1 : OB wA w5.heap.size (.slice (some ⟨p.1, 0, none⟩) 736 p.2) l := hO.kept hG (.inr (fun e => by
            have := (hvb p.1 e.symm).2; omega))
          exact (h1.fr' M1.fr (fun g hg => by
            simp only [Value.ownBlock, Option.some.injEq] at hg; subst hg
            exact hnS _ (by omega) (by omega) (by omega))).mono (by omega)
      · rw [List.map_append, List.nodup_append]
        refine ⟨HR.out.ao.nd, by simp, fun a ha c hc e => ?_⟩
        simp only [List.map_cons, List.map_nil, List.mem_singleton] at hc
        subst hc; subst e; exact hpL ha
      · intro g hg h
        rw [List.map_append, List.mem_append] at h
        rcases h with h | h
        · rcases hBAz g hg with e | e
          · exact HR.out.ao.nv g e h
          · have := (HR.out.lt g (.inr (.inr h))).2; omega
        · simp only [List.map_cons, List.map_nil, List.mem_singleton] at h
          rcases BA g hg with e | e
          · have := (hvb g e).2; omega
          · omega
      · rintro (h | h)
        · rcases hBAz b h with e | e
          · exact (hvb b e).1 rfl
          · omega
        · rw [List.map_append, List.mem_append] at h
          rcases h with h | h
          · exact HR.out.ne (.inr h)
          · simp only [List.map_cons, List.map_nil, List.mem_singleton] at h; omega
      · rw [List.map_append]; exact h1
      · rintro g (rfl | h | h)
        · exact .inl (.inl rfl)
        · exact (hBAz g h).imp (fun h => .inr (.inl h)) (fun h => by omega)
        · rw [List.map_append, List.mem_append] at h
          rcases h with h | h
          · exact .inl (.inr (.inr h))
          · simp only [List.map_cons, List.map_nil, List.mem_singleton] at h; right; omega
    clear R hB hl hm h1
    subst h2
    have M0 := Mm.start no w
    go_enter Try.func47, Try.ntmps47
    have M2 := (M0.alloc (ITR too (.slice (some ⟨ug, uo, none⟩) 736 uc)) 72 (by decide))
    try simp only [World.size_alloc] at M2
    go_upto_region 1 with fail
    obtain ⟨w1, hw1⟩ : ∃ w1, w1 = (w.alloc (.cells (ITR too (.slice (some ⟨ug, uo, none⟩) 736 uc)) 72)) := ⟨_, rfl⟩
    rw [← hw1] at M2 ⊢
    clear hw1
    refine wp_region_X (fun v => v.rowOf b = STR room (.slice va m vc)) (.yld [0, 1, 2, 3, 4, 5, 6, 7, 8, 9] .done) (by kernel_rfl) (by kernel_rfl) (by kernel_rfl) (fun d _ _ _ _ h => by cases d <;> exact h) ?_
    have M3 := M2.drewN 1
    change wpX _ _ _ _ _ _ (w1.drewN 1)
    obtain ⟨w4, hw4⟩ : ∃ w4, w4 = w1.drewN 1 := ⟨_, rfl⟩
    rw [← hw4] at M3 ⊢
    clear hw4
    refine wpX_yld ?_
    refine wpYJd_op 5 (.pointer (some ⟨b, 0, none⟩)) rfl rfl rfl (fun w1 h => by go_simp) ?_
    refine wpYJd_op 6 (.pointer (some ⟨b, 0, none⟩)) rfl rfl rfl (fun w1 h => by go_simp) ?_
    refine wpYJd_op 7 (.pointer (some ⟨b, 1, none⟩)) rfl rfl rfl (fun w1 h => by go_simp) ?_
    refine wpYJd_op 8 (.slice va m vc) rfl rfl rfl (fun w1 h => by have c0 := st_c1 (h); go_simp) ?_
    refine wpYJd_op 9 (.int .i64 m) rfl rfl rfl (fun w1 h => by go_simp) ?_
    try simp only [Act.put, List.setIfInBounds_toArray, List.set_cons_succ, List.set_cons_zero]
    refine wpYJd_op 10 (.pointer (some ⟨b, 0, none⟩)) rfl rfl rfl (fun w1 h => by go_simp) ?_
    refine wpYJd_op 11 (.pointer (some ⟨b, 0, none⟩)) rfl rfl rfl (fun w1 h => by go_simp) ?_
    refine wpYJd_op 12 (.pointer (some ⟨b, 0, none⟩)) rfl rfl rfl (fun w1 h => by go_simp) ?_
    refine wpYJd_op 13 (.int .i64 room) rfl rfl rfl (fun w1 h => by have c0 := st_c0 (h); go_simp) ?_
    refine wpYJd_op 14 (.bool false) rfl rfl rfl (fun w1 h => by go_simp) ?_
    show wpX _ _ _ _ _ _ _
    try simp only [Act.put, List.setIfInBounds_toArray, List.set_cons_succ, List.set_cons_zero]
    refine ⟨(by exact (HROW.out _ M3.end_)), ?_⟩
    try simp only [Act.put, List.setIfInBounds_toArray, List.set_cons_succ, List.set_cons_zero]
    go_upto_region 3 with fail
    refine wp_region_Z (fun v => v.rowOf (w.heap.size) = ITR too (.slice (some ⟨ug, uo, none⟩) 736 uc) ∧ v.rowOf b = STR room (.slice va m vc)) 9 (.yld [0, 1, 2, 3, 4, 5] (.op 6 (.op 7 (.op 8 (.rest (.op 9 (.op 10 (.op 11 .done)))))))) (by kernel_rfl) (by kernel_rfl) (by kernel_rfl) (fun d _ _ _ _ h => by cases d <;> exact h) ?_
    have M5 := M3.drewN 1
    change wpZ _ _ _ _ _ _ (w4.drewN 1)
    obtain ⟨w6, hw6⟩ : ∃ w6, w6 = w4.drewN 1 := ⟨_, rfl⟩
    rw [← hw6] at M5 ⊢
    clear hw6
    refine wpZ_yld ?_
    refine wpYJd_op 15 (.pointer (some ⟨b, 0, none⟩)) rfl rfl rfl (fun w1 h => by go_simp) ?_
    refine wpYJd_op 16 (.pointer (some ⟨b, 0, none⟩)) rfl rfl rfl (fun w1 h => by go_simp) ?_
    refine wpYJd_op 17 (.pointer (some ⟨b, 0, none⟩)) rfl rfl rfl (fun w1 h => by go_simp) ?_
    refine wpYJd_op 18 (.pointer (some ⟨b, 1, none⟩)) rfl rfl rfl (fun w1 h => by go_simp) ?_
    refine wpYJd_op 19 (.slice va m vc) rfl rfl rfl (fun w1 h => by have c0 := st_c1 (h.2); go_simp) ?_
    try simp only [Act.put, List.setIfInBounds_toArray, List.set_cons_succ, List.set_cons_zero]
    refine wpYJd_ld 20 Try.underlying72 rfl inf_itm (w.heap.size) (ITR too (.slice (some ⟨ug, uo, none⟩) 736 uc)) rfl rfl rfl (by go_simp) (fun _ h => h.1) (by simp [ITR_size, STR_size, RSR_size, AC6_size]) rfl ?_
    show wpZ _ _ _ _ _ _ _
    try simp only [Act.put, List.setIfInBounds_toArray, List.set_cons_succ, List.set_cons_zero]
    refine wpZ_of (⟨M5.row (b := w.heap.size) (c := ITR too (.slice (some ⟨ug, uo, none⟩) 736 uc)) (by simp), (by first | exact HROW.out _ (M5).end_ | exact (M5).row (by simp))⟩) ?_
    have hsz := M5.lt (b := w.heap.size) (c := ITR too (.slice (some ⟨ug, uo, none⟩) 736 uc)) (by simp)
    refine wpT_newx (U := Nat × Nat) (fun p => .agg (ITR too (.slice (some ⟨p.1, 0, none⟩) 736 p.2))) (fun p w' => OB w' w6.heap.size (.slice (some ⟨p.1, 0, none⟩) 736 p.2) l) 21 M5 rfl rfl rfl (by go_simp) (own_c w6 too _ l (HBS.out _ M5.end_) HLL.out) (fun p wc OC hwc MC => ?_)
    refine wpZ_to ?_
    try simp only [Act.put, List.setIfInBounds_toArray, List.set_cons_succ, List.set_cons_zero]
    refine wpZ_of (⟨MC.row (b := w.heap.size) (c := ITR too (.slice (some ⟨ug, uo, none⟩) 736 uc)) (by simp), (by first | exact HROW.out _ (MC).end_ | exact (MC).row (by simp))⟩) ?_
    obtain ⟨S1, MC1, hS1, hT1⟩ := MC.rebase
    refine wpT_one 22 _ MC1 elt_itm (by decide) (ITR too (.slice (some ⟨p.1, 0, none⟩) 736 p.2)) ITR_size rfl rfl rfl (by go_simp) rfl (fun gx wgx MG => ?_)
    have OC2 := OC.fr' MG.fr (fun g hg h => by
      have h1 := hS1 g h
      have h2 := (OC.at_ g hg).1
      simp only [List.map_cons, List.map_nil, List.mem_cons, List.not_mem_nil, or_false] at h1
      omega)
    have Mgx := hT1 _ _ MG
    refine wpZ_to ?_
    try simp only [Act.put, List.setIfInBounds_toArray, List.set_cons_succ, List.set_cons_zero]
    refine wpZ_of (⟨Mgx.row (b := w.heap.size) (c := ITR too (.slice (some ⟨ug, uo, none⟩) 736 uc)) (by simp), (by first | exact HROW.out _ (Mgx).end_ | exact (Mgx).row (by simp))⟩) ?_
    obtain ⟨Tb, hTb, hrb⟩ := (HR.out.below Mgx.end_).row
    have MW := ((Mgx.sub (H' := [(w.heap.size, ITR too (.slice (some ⟨ug, uo, none⟩) 736 uc))]) (by simp)).wide (S' := HF b (.slice va m vc)) (fun _ h => h.elim)).more hTb hrb (.inl (.inl rfl)) (fun q hq e => by
      simp only [List.mem_cons, List.not_mem_nil, or_false] at hq
      subst hq
      dsimp only at e
      have := hbw; omega)
    have hwX := MW.lt (b := w.heap.size) (c := ITR too (.slice (some ⟨ug, uo, none⟩) 736 uc)) (by simp)
    have HOW := hid (show Ow _ B 2 (.slice va m vc) m (fl eI L) by have h := (HR.out.below Mgx.end_).ao.ow; rw [HLM.out] at h; exact h)
    refine wpT_gapp 23 _ _ MW elt_itm (.slice va m vc) (.slice (some ⟨gx, 0, none⟩) 1 1) m 1 (fl eI L) (eI ⟨too, p.1, p.2, l⟩) rfl rfl rfl rfl (by go_simp) HOW.out (by go_simp) (sv_row (Mgx.row (b := gx) (c := ITR too (.slice (some ⟨p.1, 0, none⟩) 736 p.2)) (by simp)) (by unfold maxLen; decide)) rfl (one_eI _) (by omega) (by have := hBw; omega) (fun x hx => HSEP.out _ _ x hx) (fun ua2 wA OA MA GA BA => ?_)
    obtain ⟨S2, MB, hS2, hT2⟩ := MA.rebase
    have HFI := hid (HFIN.out _ _ _ ua2 p hsz hwX OC2 GA BA OA)
    obtain ⟨xa, xc, rfl, _⟩ := OA.shape
    clear OA OC OC2 GA BA
    refine wpZ_to ?_
    try simp only [Act.put, List.setIfInBounds_toArray, List.set_cons_succ, List.set_cons_zero]
    refine wpZ_rest (⟨MB.row (b := w.heap.size) (c := ITR too (.slice (some ⟨ug, uo, none⟩) 736 uc)) (by simp), (by first | exact HROW.out _ (MB).end_ | exact (MB).row (by simp))⟩) ?_
    refine wpT_valp 24 (v := .pointer (some ⟨b, 0, none⟩)) rfl rfl rfl (by go_simp) ?_
    refine wpT_valp 25 (v := .pointer (some ⟨b, 1, none⟩)) rfl rfl rfl (by go_simp) ?_
    refine wpT_stc MB 0 (.slice xa (m + 1) xc) (STR room (.slice xa (m + 1) xc)) inf_sli rfl rfl rfl rfl (by go_simp) (by go_simp) (by simp [ITR_size, STR_size, RSR_size, AC6_size]) (by simp [go_sem]) (st_s1 _) rfl (fun w7 M8 => ?_)
    dsimp only [List.set] at M8
    first | dsimp only [wpT] | refine wpT_fin ?_
    try simp only [Act.put, List.setIfInBounds_toArray, List.set_cons_succ, List.set_cons_zero]
    go_upto_region 4 with fail
    refine wp_region_lin (.op 0 .done) (by rfl) ?_
    refine wpT_valp 4 (v := .int .i64 0) rfl rfl rfl (by go_simp) ?_
    first | dsimp only [wpT] | refine wpT_fin ?_
    try simp only [Act.put, List.setIfInBounds_toArray, List.set_cons_succ, List.set_cons_zero]
    go_wp2_with fail
    go_ret
    exact HFI.out _ _ _ _ _ hS2 M8 (hT2 _ _ M8) (by simp)
set_option maxHeartbeats 4000000 in
theorem lput_c (w : World) (B b : Nat) (room : Int) (L : List It) (v : Value) (R : LO w B b room L v) (hrm : 0 < room) (too : Int) (u : Value) (l : B8) (hB : BS w u l) (h9 : L.length ≤ 5000) {M2 : List Pa} {q : Int} (hres : Lk.put room.toNat (L.map It.ab) (too, l) = (M2, q)) :
    Calls Try.prog 34 #[.pointer (some ⟨b, 0, none⟩), .agg (ITR too u)] w (LPost w B b room v L (M2, q)) := by
  have HR := hid R
  have HROW : Hid (∀ w', Below w.heap.size w w' → w'.rowOf b = STR room v) := hid fun w' h => (R.below h).rowOf
  have HBS : Hid (∀ w', Below w.heap.size w w' → BS w' u l) := hid fun w' h => SV.below hB h
  obtain ⟨un, hun⟩ : ∃ n, l.length = n := ⟨_, rfl⟩
  obtain ⟨ua, uc, rfl, _⟩ := hB.shape' un hun
  obtain ⟨va, vc, hv, _⟩ := R.ao.ow.shape
  obtain ⟨m, hm⟩ : ∃ n, L.length = n := ⟨_, rfl⟩
  rw [hm] at hv
  subst hv
  have hr0 : ¬ room = 0 := by omega
  have hrm0 : 0 ≤ room := by omega
  unfold Lk.put at hres
  dsimp only at hres
  rw [hun] at hres
  by_cases c1 : too < 0
  · rw [if_pos (.inl c1)] at hres
    injection hres with h1 h2
    subst h1; subst h2
    clear R hB hun hm
    have M0 := Mm.start no w
    go_enter Try.func34, Try.ntmps34
    have M2 := (M0.alloc (ITR too (.slice ua un uc)) 72 (by decide))
    try simp only [World.size_alloc] at M2
    go_upto_region 1 with fail
    obtain ⟨w1, hw1⟩ : ∃ w1, w1 = (w.alloc (.cells (ITR too (.slice ua un uc)) 72)) := ⟨_, rfl⟩
    rw [← hw1] at M2 ⊢
    clear hw1
    refine wp_region_lin (.op 0 (.op 1 (.op 2 (.op 3 (.op 4 (.op 5 (.op 6 (.op 7 (.op 8 (.op 9 .done)))))))))) (by rfl) ?_
    refine wpT_valp 6 (v := .pointer (some ⟨b, 0, none⟩)) rfl rfl rfl (by go_simp) ?_
    refine wpT_valp 7 (v := .bool false) rfl rfl rfl (by go_simp) ?_
    refine wpT_valp 8 (v := .bool false) rfl rfl rfl (by go_simp) ?_
    refine wpT_valp 9 (v := .pointer (some ⟨b, 0, none⟩)) rfl rfl (by simp [Region.wanted, yielded, Act.put]) (by go_simp) ?_
    try simp only [Act.put, List.setIfInBounds_toArray, List.set_cons_succ, List.set_cons_zero]
    refine wpT_valp 10 (v := .pointer (some ⟨b, 0, none⟩)) rfl rfl (by simp [Region.wanted, yielded, Act.put]) (by go_simp) ?_
    refine wpT_valp 11 (v := .pointer (some ⟨b, 0, none⟩)) rfl rfl (by simp [Region.wanted, yielded, Act.put]) (by go_simp) ?_
    refine wpT_valp 12 (v := .int .i64 room) rfl rfl (by simp [Region.wanted, yielded, Act.put]) (by have c0 := st_c0 (HROW.out _ M2.end_); go_simp) ?_
    refine wpT_valp 13 (v := .bool false) rfl rfl (by simp [Region.wanted, yielded, Act.put]) (by go_simp) ?_
    refine wpT_valp 14 (v := .bool false) rfl rfl rfl (by go_simp) ?_
    try simp only [Act.put, List.setIfInBounds_toArray, List.set_cons_succ, List.set_cons_zero]
    refine wpT_valp 5 (v := .bool false) rfl rfl rfl (by go_simp) ?_
    first | dsimp only [wpT] | refine wpT_fin ?_
    try simp only [Act.put, List.setIfInBounds_toArray, List.set_cons_succ, List.set_cons_zero]
    go_upto_region 3 with fail
    refine wp_region_lin (.op 0 (.op 1 (.op 2 (.op 3 (.op 4 (.op 5 (.op 6 (.op 7 (.op 8 (.op 9 (.op 10 (.op 11 (.op 12 (.op 13 (.op 14 .done))))))))))))))) (by rfl) ?_
    refine wpT_valp 16 (v := .pointer (some ⟨w.heap.size, 0, none⟩)) rfl rfl rfl (by go_simp) ?_
    refine wpT_valp 17 (v := .int .i64 too) rfl rfl rfl (by have c0 := it_c0 (M2.row (b := w.heap.size) (c := ITR too (.slice ua un uc)) (by simp)); go_simp) ?_
    refine wpT_valp 18 (v := .bool true) rfl rfl rfl (by go_simp) ?_
    refine wpT_valp 19 (v := .bool true) rfl rfl rfl (by go_simp) ?_
    try simp only [Act.put, List.setIfInBounds_toArray, List.set_cons_succ, List.set_cons_zero]
    refine wpT_unx 20 rfl rfl (by simp [Region.wanted, yielded, Act.put]) ?_
    try simp only [Act.put, List.setIfInBounds_toArray, List.set_cons_succ, List.set_cons_zero]
    refine wpT_unx 21 rfl rfl (by simp [Region.wanted, yielded, Act.put]) ?_
    try simp only [Act.put, List.setIfInBounds_toArray, List.set_cons_succ, List.set_cons_zero]
    refine wpT_unx 22 rfl rfl (by simp [Region.wanted, yielded, Act.put]) ?_
    try simp only [Act.put, List.setIfInBounds_toArray, List.set_cons_succ, List.set_cons_zero]
    refine wpT_valp 23 (v := .bool true) rfl rfl rfl (by go_simp) ?_
    refine wpT_valp 24 (v := .bool true) rfl rfl rfl (by go_simp) ?_
    refine wpT_unx 25 rfl rfl (by simp [Region.wanted, yielded, Act.put]) ?_
    try simp only [Act.put, List.setIfInBounds_toArray, List.set_cons_succ, List.set_cons_zero]
    refine wpT_unx 26 rfl rfl (by simp [Region.wanted, yielded, Act.put]) ?_
    try simp only [Act.put, List.setIfInBounds_toArray, List.set_cons_succ, List.set_cons_zero]
    refine wpT_unx 27 rfl rfl (by simp [Region.wanted, yielded, Act.put]) ?_
    try simp only [Act.put, List.setIfInBounds_toArray, List.set_cons_succ, List.set_cons_zero]
    refine wpT_unx 28 rfl rfl (by simp [Region.wanted, yielded, Act.put]) ?_
    try simp only [Act.put, List.setIfInBounds_toArray, List.set_cons_succ, List.set_cons_zero]
    refine wpT_valp 29 (v := .bool true) rfl rfl rfl (by go_simp) ?_
    refine wpT_valp 15 (v := .bool true) rfl rfl rfl (by go_simp) ?_
    first | dsimp only [wpT] | refine wpT_fin ?_
    try simp only [Act.put, List.setIfInBounds_toArray, List.set_cons_succ, List.set_cons_zero]
    go_upto_region 4 with fail
    refine wp_region_lin (.op 0 .done) (by rfl) ?_
    refine wpT_valp 4 (v := .int .i64 2) rfl rfl rfl (by go_simp) ?_
    first | dsimp only [wpT] | refine wpT_fin ?_
    try simp only [Act.put, List.setIfInBounds_toArray, List.set_cons_succ, List.set_cons_zero]
    go_wp2_with fail
    go_ret
    exact LPost.same HR.out M2.end_ _
  by_cases c2 : 16 ≤ too
  · rw [if_pos (.inr (.inl c2))] at hres
    injection hres with h1 h2
    subst h1; subst h2
    clear R hB hun hm
    have M0 := Mm.start no w
    go_enter Try.func34, Try.ntmps34
    have M2 := (M0.alloc (ITR too (.slice ua un uc)) 72 (by decide))
    try simp only [World.size_alloc] at M2
    go_upto_region 1 with fail
    obtain ⟨w1, hw1⟩ : ∃ w1, w1 = (w.alloc (.cells (ITR too (.slice ua un uc)) 72)) := ⟨_, rfl⟩
    rw [← hw1] at M2 ⊢
    clear hw1
    refine wp_region_lin (.op 0 (.op 1 (.op 2 (.op 3 (.op 4 (.op 5 (.op 6 (.op 7 (.op 8 (.op 9 .done)))))))))) (by rfl) ?_
    refine wpT_valp 6 (v := .pointer (some ⟨b, 0, none⟩)) rfl rfl rfl (by go_simp) ?_
    refine wpT_valp 7 (v := .bool false) rfl rfl rfl (by go_simp) ?_
    refine wpT_valp 8 (v := .bool false) rfl rfl rfl (by go_simp) ?_
    refine wpT_valp 9 (v := .pointer (some ⟨b, 0, none⟩)) rfl rfl (by simp [Region.wanted, yielded, Act.put]) (by go_simp) ?_
    try simp only [Act.put, List.setIfInBounds_toArray, List.set_cons_succ, List.set_cons_zero]
    refine wpT_valp 10 (v := .pointer (some ⟨b, 0, none⟩)) rfl rfl (by simp [Region.wanted, yielded, Act.put]) (by go_simp) ?_
    refine wpT_valp 11 (v := .pointer (some ⟨b, 0, none⟩)) rfl rfl (by simp [Region.wanted, yielded, Act.put]) (by go_simp) ?_
    refine wpT_valp 12 (v := .int .i64 room) rfl rfl (by simp [Region.wanted, yielded, Act.put]) (by have c0 := st_c0 (HROW.out _ M2.end_); go_simp) ?_
    refine wpT_valp 13 (v := .bool false) rfl rfl (by simp [Region.wanted, yielded, Act.put]) (by go_simp) ?_
    refine wpT_valp 14 (v := .bool false) rfl rfl rfl (by go_simp) ?_
    try simp only [Act.put, List.setIfInBounds_toArray, List.set_cons_succ, List.set_cons_zero]
    refine wpT_valp 5 (v := .bool false) rfl rfl rfl (by go_simp) ?_
    first | dsimp only [wpT] | refine wpT_fin ?_
    try simp only [Act.put, List.setIfInBounds_toArray, List.set_cons_succ, List.set_cons_zero]
    go_upto_region 3 with fail
    refine wp_region_lin (.op 0 (.op 1 (.op 2 (.op 3 (.op 4 (.op 5 (.op 6 (.op 7 (.op 8 (.op 9 (.op 10 (.op 11 (.op 12 (.op 13 (.op 14 .done))))))))))))))) (by rfl) ?_
    refine wpT_valp 16 (v := .pointer (some ⟨w.heap.size, 0, none⟩)) rfl rfl rfl (by go_simp) ?_
    refine wpT_valp 17 (v := .int .i64 too) rfl rfl rfl (by have c0 := it_c0 (M2.row (b := w.heap.size) (c := ITR too (.slice ua un uc)) (by simp)); go_simp) ?_
    refine wpT_valp 18 (v := .bool false) rfl rfl rfl (by go_simp) ?_
    refine wpT_valp 19 (v := .bool false) rfl rfl rfl (by go_simp) ?_
    try simp only [Act.put, List.setIfInBounds_toArray, List.set_cons_succ, List.set_cons_zero]
    refine wpT_valp 20 (v := .pointer (some ⟨w.heap.size, 0, none⟩)) rfl rfl (by simp [Region.wanted, yielded, Act.put]) (by go_simp) ?_
    refine wpT_valp 21 (v := .int .i64 too) rfl rfl (by simp [Region.wanted, yielded, Act.put]) (by have c0 := it_c0 (M2.row (b := w.heap.size) (c := ITR too (.slice ua un uc)) (by simp)); go_simp) ?_
    refine wpT_valp 22 (v := .bool true) rfl rfl (by simp [Region.wanted, yielded, Act.put]) (by go_simp) ?_
    refine wpT_valp 23 (v := .bool true) rfl rfl rfl (by go_simp) ?_
    refine wpT_valp 24 (v := .bool true) rfl rfl rfl (by go_simp) ?_
    try simp only [Act.put, List.setIfInBounds_toArray, List.set_cons_succ, List.set_cons_zero]
    refine wpT_unx 25 rfl rfl (by simp [Region.wanted, yielded, Act.put]) ?_
    try simp only [Act.put, List.setIfInBounds_toArray, List.set_cons_succ, List.set_cons_zero]
    refine wpT_unx 26 rfl rfl (by simp [Region.wanted, yielded, Act.put]) ?_
    try simp only [Act.put, List.setIfInBounds_toArray, List.set_cons_succ, List.set_cons_zero]
    refine wpT_unx 27 rfl rfl (by simp [Region.wanted, yielded, Act.put]) ?_
    try simp only [Act.put, List.setIfInBounds_toArray, List.set_cons_succ, List.set_cons_zero]
    refine wpT_unx 28 rfl rfl (by simp [Region.wanted, yielded, Act.put]) ?_
    try simp only [Act.put, List.setIfInBounds_toArray, List.set_cons_succ, List.set_cons_zero]
    refine wpT_valp 29 (v := .bool true) rfl rfl rfl (by go_simp) ?_
    refine wpT_valp 15 (v := .bool true) rfl rfl rfl (by go_simp) ?_
    first | dsimp only [wpT] | refine wpT_fin ?_
    try simp only [Act.put, List.setIfInBounds_toArray, List.set_cons_succ, List.set_cons_zero]
    go_upto_region 4 with fail
    refine wp_region_lin (.op 0 .done) (by rfl) ?_
    refine wpT_valp 4 (v := .int .i64 2) rfl rfl rfl (by go_simp) ?_
    first | dsimp only [wpT] | refine wpT_fin ?_
    try simp only [Act.put, List.setIfInBounds_toArray, List.set_cons_succ, List.set_cons_zero]
    go_wp2_with fail
    go_ret
    exact LPost.same HR.out M2.end_ _
  by_cases c3 : un = 736
  · rw [if_neg (by rintro (h | h | h) <;> omega)] at hres
    subst c3
    have HLL := hid hun
    have HRES := hid hres
    clear R hB hun hm hres
    have M0 := Mm.start no w
    go_enter Try.func34, Try.ntmps34
    have M2 := (M0.alloc (ITR too (.slice ua 736 uc)) 72 (by decide))
    try simp only [World.size_alloc] at M2
    go_upto_region 1 with fail
    obtain ⟨w1, hw1⟩ : ∃ w1, w1 = (w.alloc (.cells (ITR too (.slice ua 736 uc)) 72)) := ⟨_, rfl⟩
    rw [← hw1] at M2 ⊢
    clear hw1
    refine wp_region_lin (.op 0 (.op 1 (.op 2 (.op 3 (.op 4 (.op 5 (.op 6 (.op 7 (.op 8 (.op 9 .done)))))))))) (by rfl) ?_
    refine wpT_valp 6 (v := .pointer (some ⟨b, 0, none⟩)) rfl rfl rfl (by go_simp) ?_
    refine wpT_valp 7 (v := .bool false) rfl rfl rfl (by go_simp) ?_
    refine wpT_valp 8 (v := .bool false) rfl rfl rfl (by go_simp) ?_
    refine wpT_valp 9 (v := .pointer (some ⟨b, 0, none⟩)) rfl rfl (by simp [Region.wanted, yielded, Act.put]) (by go_simp) ?_
    try simp only [Act.put, List.setIfInBounds_toArray, List.set_cons_succ, List.set_cons_zero]
    refine wpT_valp 10 (v := .pointer (some ⟨b, 0, none⟩)) rfl rfl (by simp [Region.wanted, yielded, Act.put]) (by go_simp) ?_
    refine wpT_valp 11 (v := .pointer (some ⟨b, 0, none⟩)) rfl rfl (by simp [Region.wanted, yielded, Act.put]) (by go_simp) ?_
    refine wpT_valp 12 (v := .int .i64 room) rfl rfl (by simp [Region.wanted, yielded, Act.put]) (by have c0 := st_c0 (HROW.out _ M2.end_); go_simp) ?_
    refine wpT_valp 13 (v := .bool false) rfl rfl (by simp [Region.wanted, yielded, Act.put]) (by go_simp) ?_
    refine wpT_valp 14 (v := .bool false) rfl rfl rfl (by go_simp) ?_
    try simp only [Act.put, List.setIfInBounds_toArray, List.set_cons_succ, List.set_cons_zero]
    refine wpT_valp 5 (v := .bool false) rfl rfl rfl (by go_simp) ?_
    first | dsimp only [wpT] | refine wpT_fin ?_
    try simp only [Act.put, List.setIfInBounds_toArray, List.set_cons_succ, List.set_cons_zero]
    go_upto_region 3 with fail
    refine wp_region_lin (.op 0 (.op 1 (.op 2 (.op 3 (.op 4 (.op 5 (.op 6 (.op 7 (.op 8 (.op 9 (.op 10 (.op 11 (.op 12 (.op 13 (.op 14 .done))))))))))))))) (by rfl) ?_
    refine wpT_valp 16 (v := .pointer (some ⟨w.heap.size, 0, none⟩)) rfl rfl rfl (by go_simp) ?_
    refine wpT_valp 17 (v := .int .i64 too) rfl rfl rfl (by have c0 := it_c0 (M2.row (b := w.heap.size) (c := ITR too (.slice ua 736 uc)) (by simp)); go_simp) ?_
    refine wpT_valp 18 (v := .bool false) rfl rfl rfl (by go_simp) ?_
    refine wpT_valp 19 (v := .bool false) rfl rfl rfl (by go_simp) ?_
    try simp only [Act.put, List.setIfInBounds_toArray, List.set_cons_succ, List.set_cons_zero]
    refine wpT_valp 20 (v := .pointer (some ⟨w.heap.size, 0, none⟩)) rfl rfl (by simp [Region.wanted, yielded, Act.put]) (by go_simp) ?_
    refine wpT_valp 21 (v := .int .i64 too) rfl rfl (by simp [Region.wanted, yielded, Act.put]) (by have c0 := it_c0 (M2.row (b := w.heap.size) (c := ITR too (.slice ua 736 uc)) (by simp)); go_simp) ?_
    refine wpT_valp 22 (v := .bool false) rfl rfl (by simp [Region.wanted, yielded, Act.put]) (by go_simp) ?_
    refine wpT_valp 23 (v := .bool false) rfl rfl rfl (by go_simp) ?_
    refine wpT_valp 24 (v := .bool false) rfl rfl rfl (by go_simp) ?_
    try simp only [Act.put, List.setIfInBounds_toArray, List.set_cons_succ, List.set_cons_zero]
    refine wpT_valp 25 (v := .pointer (some ⟨w.heap.size, 1, none⟩)) rfl rfl (by simp [Region.wanted, yielded, Act.put]) (by go_simp) ?_
    refine wpT_valp 26 (v := .slice ua 736 uc) rfl rfl (by simp [Region.wanted, yielded, Act.put]) (by have c0 := it_c1 (M2.row (b := w.heap.size) (c := ITR too (.slice ua 736 uc)) (by simp)); go_simp) ?_
    refine wpT_valp 27 (v := .int .i64 736) rfl rfl (by simp [Region.wanted, yielded, Act.put]) (by go_simp) ?_
    refine wpT_valp 28 (v := .bool false) rfl rfl (by simp [Region.wanted, yielded, Act.put]) (by go_simp) ?_
    refine wpT_valp 29 (v := .bool false) rfl rfl rfl (by go_simp) ?_
    try simp only [Act.put, List.setIfInBounds_toArray, List.set_cons_succ, List.set_cons_zero]
    refine wpT_valp 15 (v := .bool false) rfl rfl rfl (by go_simp) ?_
    first | dsimp only [wpT] | refine wpT_fin ?_
    try simp only [Act.put, List.setIfInBounds_toArray, List.set_cons_succ, List.set_cons_zero]
    go_upto_region 5 with fail
    refine wp_region_lin (.op 0 (.op 1 (.op 2 (.op 3 .done)))) (by rfl) ?_
    refine wpT_valp 30 (v := .pointer (some ⟨b, 0, none⟩)) rfl rfl rfl (by go_simp) ?_
    refine wpT_ld0 31 Try.underlying72 rfl inf_itm (w.heap.size) (ITR too (.slice ua 736 uc)) rfl rfl rfl (by go_simp) (M2.row (b := w.heap.size) (c := ITR too (.slice ua 736 uc)) (by simp)) (by simp [ITR_size, STR_size, RSR_size, AC6_size]) rfl ?_
    have HB1 := hid (M2).end_
    refine wpT_last (V := .int .i64 q) 32 rfl rfl rfl (by go_simp) (behind_c w1 B b room L _ (HR.out.below M2.end_) hrm0 too _ l (HBS.out _ M2.end_) HLL.out h9 HRES.out) (fun e w' h => h.ret) (fun wl ZL => ?_)
    refine wpT_valp 4 (v := .int .i64 q) rfl rfl rfl (by go_simp) ?_
    first | dsimp only [wpT] | refine wpT_fin ?_
    try simp only [Act.put, List.setIfInBounds_toArray, List.set_cons_succ, List.set_cons_zero]
    go_wp2_with fail
    go_ret
    exact LPost.trans HR.out HB1.out ZL
  · rw [if_pos (.inr (.inr c3))] at hres
    injection hres with h1 h2
    subst h1; subst h2
    have c4 : ¬ (un : Int) = 736 := by omega
    clear R hB hun hm
    have M0 := Mm.start no w
    go_enter Try.func34, Try.ntmps34
    have M2 := (M0.alloc (ITR too (.slice ua un uc)) 72 (by decide))
    try simp only [World.size_alloc] at M2
    go_upto_region 1 with fail
    obtain ⟨w1, hw1⟩ : ∃ w1, w1 = (w.alloc (.cells (ITR too (.slice ua un uc)) 72)) := ⟨_, rfl⟩
    rw [← hw1] at M2 ⊢
    clear hw1
    refine wp_region_lin (.op 0 (.op 1 (.op 2 (.op 3 (.op 4 (.op 5 (.op 6 (.op 7 (.op 8 (.op 9 .done)))))))))) (by rfl) ?_
    refine wpT_valp 6 (v := .pointer (some ⟨b, 0, none⟩)) rfl rfl rfl (by go_simp) ?_
    refine wpT_valp 7 (v := .bool false) rfl rfl rfl (by go_simp) ?_
    refine wpT_valp 8 (v := .bool false) rfl rfl rfl (by go_simp) ?_
    refine wpT_valp 9 (v := .pointer (some ⟨b, 0, none⟩)) rfl rfl (by simp [Region.wanted, yielded, Act.put]) (by go_simp) ?_
    try simp only [Act.put, List.setIfInBounds_toArray, List.set_cons_succ, List.set_cons_zero]
    refine wpT_valp 10 (v := .pointer (some ⟨b, 0, none⟩)) rfl rfl (by simp [Region.wanted, yielded, Act.put]) (by go_simp) ?_
    refine wpT_valp 11 (v := .pointer (some ⟨b, 0, none⟩)) rfl rfl (by simp [Region.wanted, yielded, Act.put]) (by go_simp) ?_
    refine wpT_valp 12 (v := .int .i64 room) rfl rfl (by simp [Region.wanted, yielded, Act.put]) (by have c0 := st_c0 (HROW.out _ M2.end_); go_simp) ?_
    refine wpT_valp 13 (v := .bool false) rfl rfl (by simp [Region.wanted, yielded, Act.put]) (by go_simp) ?_
    refine wpT_valp 14 (v := .bool false) rfl rfl rfl (by go_simp) ?_
    try simp only [Act.put, List.setIfInBounds_toArray, List.set_cons_succ, List.set_cons_zero]
    refine wpT_valp 5 (v := .bool false) rfl rfl rfl (by go_simp) ?_
    first | dsimp only [wpT] | refine wpT_fin ?_
    try simp only [Act.put, List.setIfInBounds_toArray, List.set_cons_succ, List.set_cons_zero]
    go_upto_region 3 with fail
    refine wp_region_lin (.op 0 (.op 1 (.op 2 (.op 3 (.op 4 (.op 5 (.op 6 (.op 7 (.op 8 (.op 9 (.op 10 (.op 11 (.op 12 (.op 13 (.op 14 .done))))))))))))))) (by rfl) ?_
    refine wpT_valp 16 (v := .pointer (some ⟨w.heap.size, 0, none⟩)) rfl rfl rfl (by go_simp) ?_
    refine wpT_valp 17 (v := .int .i64 too) rfl rfl rfl (by have c0 := it_c0 (M2.row (b := w.heap.size) (c := ITR too (.slice ua un uc)) (by simp)); go_simp) ?_
    refine wpT_valp 18 (v := .bool false) rfl rfl rfl (by go_simp) ?_
    refine wpT_valp 19 (v := .bool false) rfl rfl rfl (by go_simp) ?_
    try simp only [Act.put, List.setIfInBounds_toArray, List.set_cons_succ, List.set_cons_zero]
    refine wpT_valp 20 (v := .pointer (some ⟨w.heap.size, 0, none⟩)) rfl rfl (by simp [Region.wanted, yielded, Act.put]) (by go_simp) ?_
    refine wpT_valp 21 (v := .int .i64 too) rfl rfl (by simp [Region.wanted, yielded, Act.put]) (by have c0 := it_c0 (M2.row (b := w.heap.size) (c := ITR too (.slice ua un uc)) (by simp)); go_simp) ?_
    refine wpT_valp 22 (v := .bool false) rfl rfl (by simp [Region.wanted, yielded, Act.put]) (by go_simp) ?_
    refine wpT_valp 23 (v := .bool false) rfl rfl rfl (by go_simp) ?_
    refine wpT_valp 24 (v := .bool false) rfl rfl rfl (by go_simp) ?_
    try simp only [Act.put, List.setIfInBounds_toArray, List.set_cons_succ, List.set_cons_zero]
    refine wpT_valp 25 (v := .pointer (some ⟨w.heap.size, 1, none⟩)) rfl rfl (by simp [Region.wanted, yielded, Act.put]) (by go_simp) ?_
    refine wpT_valp 26 (v := .slice ua un uc) rfl rfl (by simp [Region.wanted, yielded, Act.put]) (by have c0 := it_c1 (M2.row (b := w.heap.size) (c := ITR too (.slice ua un uc)) (by simp)); go_simp) ?_
    refine wpT_valp 27 (v := .int .i64 un) rfl rfl (by simp [Region.wanted, yielded, Act.put]) (by go_simp) ?_
    refine wpT_valp 28 (v := .bool true) rfl rfl (by simp [Region.wanted, yielded, Act.put]) (by go_simp) ?_
    refine wpT_valp 29 (v := .bool true) rfl rfl rfl (by go_simp) ?_
    try simp only [Act.put, List.setIfInBounds_toArray, List.set_cons_succ, List.set_cons_zero]
    refine wpT_valp 15 (v := .bool true) rfl rfl rfl (by go_simp) ?_
    first | dsimp only [wpT] | refine wpT_fin ?_
    try simp only [Act.put, List.setIfInBounds_toArray, List.set_cons_succ, List.set_cons_zero]
    go_upto_region 4 with fail
    refine wp_region_lin (.op 0 .done) (by rfl) ?_
    refine wpT_valp 4 (v := .int .i64 2) rfl rfl rfl (by go_simp) ?_
    first | dsimp only [wpT] | refine wpT_fin ?_
    try simp only [Act.put, List.setIfInBounds_toArray, List.set_cons_succ, List.set_cons_zero]
    go_wp2_with fail
    go_ret
    exact LPost.same HR.out M2.end_ _
theorem ldel_x (w : World) (base : Nat) (v : Value) (L : List It) (i : Nat) {i1 : Nat} (hi1 : i1 = i + 1) (hO : Ow w base 2 v L.length (fl eI L)) (hi : i < L.length) (h9 : L.length ≤ 100000) :
    Calls Try.prog 44 #[v, .int .i64 i, .int .i64 i1] w fun e w' => ∃ v', e = .returned v' ∧ Ow w' base 2 v' (L.length - 1) (fl eI (L.eraseIdx i)) ∧ Fr (fun g => obk v = some g) w w' ∧ obk v' = obk v := by
  subst hi1; exact ldel_c w base v L i hO hi h9
/-- a step: a call that turns a slice of one's own -/
theorem wpT_owd {P : Program} {ops : Array Oper} {Q : Exit → Act → World → Prop} {i : Nat} {t : Tr} {a : Act} {o : Oper} {f : FuncId} {args : Array Value} {S : Nat → Prop} {w0 w : World} {H : List (Nat × Array Value)} {base k n' : Nat} {xs' : List Value} {v : Value} (dst : Nat) (M : Mm S w0 H w) (hsep : ∀ g, obk v = some g → (S g ∨ w0.heap.size ≤ g) ∧ ∀ p ∈ H, p.1 ≠ g) (hdst : o.dst = some dst) (ho : ops[i]? = some o) (hw : Region.wanted o (yielded ops a.tmps) = true) (hrun : (execOp a.eval o).run P w = .ok (.enter f args) w)
    (hc : Calls P f args w fun e w' => ∃ v', e = .returned v' ∧ Ow w' base k v' n' xs' ∧ Fr (fun g => obk v = some g) w w' ∧ obk v' = obk v)
    (h : ∀ v' w', Ow w' base k v' n' xs' → Mm S w0 H w' → obk v' = obk v → wpT P ops Q t (a.put (some dst) v') w') : wpT P ops Q (.op i t) a w := by
  refine wpT_call ho hw hrun hc (fun e w' => ?_)
  rintro ⟨v', he, hO, hf, hb⟩
  refine ⟨v', he, ?_⟩
  rw [hdst]
  exact h v' w' hO (M.frw hf hsep) hb
end Go.Proofs.Ytojkcbhmhfjioaa
