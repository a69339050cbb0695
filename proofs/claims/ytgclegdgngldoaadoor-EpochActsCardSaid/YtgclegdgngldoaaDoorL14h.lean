/-
  Law 14: EpochActs; own work.
-/
import Derived.Test.YtgclegdgngldoaaDoorL14g
import Derived.Test.YtgclegdgngldoaaDoorXtra
set_option linter.unusedSimpArgs false
set_option linter.unusedVariables false
namespace Go.Proofs.YtgclegdgngldoaaDoor
open Go.RowKit Fp
section
variable {S : Nat → Prop} {w0 w : World} {H : List (Nat × Array Value)}
theorem Mm.p4 {a b c d : Nat × Array Value} {R : List (Nat × Array Value)} (h : Mm S w0 (a :: b :: c :: d :: R) w) : Mm S w0 (c :: d :: b :: a :: R) w := by
  have p : List.Perm (a :: b :: c :: d :: R) (c :: d :: b :: a :: R) :=
    (List.Perm.append_right R (List.perm_append_comm (l₁ := [a, b]) (l₂ := [c, d]))).trans (List.Perm.append_left [c, d] (List.Perm.swap b a R))
  exact ⟨h.fr, fun q hq => h.own q (p.mem_iff.2 hq), (p.map _).nodup_iff.1 h.nd⟩
/-- a step: a call of the reference that answers a new Rotor -/
theorem wpT_rro {P : Program} {ops : Array Oper} {Q : Exit → Act → World → Prop} {i : Nat} {tr : Tr} {a : Act} {o : Oper} {f : FuncId} {args : Array Value} {xs : List Value} {n : Nat} (F : Value → Value) (dst : Nat) (M : Mm S w0 H w) (hdst : o.dst = some dst) (ho : ops[i]? = some o) (hw : Region.wanted o (yielded ops a.tmps) = true) (hrun : (execOp a.eval o).run P w = .ok (.enter f args) w)
    (hc : Calls P f args w fun e w' => ∃ u, e = .returned (F u) ∧ Ow w' w.heap.size 2 u n xs ∧ Below w.heap.size w w') (h0 : 0 < n)
    (h : ∀ g' c1' cur' w', Rw w0.heap.size 2 (.slice (some ⟨g', 0, none⟩) n c1') n xs g' c1' cur' → Mm S w0 ((g', cur') :: H) w' → wpT P ops Q tr (a.put (some dst) (F (.slice (some ⟨g', 0, none⟩) n c1'))) w') : wpT P ops Q (.op i tr) a w := by
  refine wpT_call ho hw hrun hc (fun e w' => ?_)
  rintro ⟨u, he, O, hf⟩
  refine ⟨F u, he, ?_⟩
  rw [hdst]
  have O1 := O.mono (B := w0.heap.size) (fun x hx => Nat.le_trans M.size (O.at_ x hx).1)
  obtain ⟨g', c1', cur', R2, M2⟩ := (M.below hf).reown O1 h0 (fun x hx => by
    have := (O.at_ x hx).1
    refine ⟨.inr (Nat.le_trans M.size this), fun p hp => ?_⟩
    have := M.lt (b := p.1) (c := p.2) hp
    omega)
  obtain ⟨rfl⟩ := R2.v
  exact h g' c1' cur' w' R2 M2
end
theorem rnew_y (w : World) (k : L8) (x : Nat) (hk : k.length = 32) :
    Calls Tryd.prog 24 #[.agg (cs U8 k), .int .i64 x] w fun e w' => ∃ v, e = .returned (.agg (ROR k v x)) ∧ Ow w' w.heap.size 2 v 1 (fl e2 [⟨0, x⟩]) ∧ Below w.heap.size w w' := rnew_c w k ⟨0, x⟩ hk rfl
theorem rrestart_y {w : World} {k : L8} {g n c1 : Nat} {L L' : List Ep.Sl} {t m n3 : Nat} {a : Ep.Sl} (hV : SV w (.slice (some ⟨g, 0, none⟩) n c1) n (fl e2 L)) (hL : L[0]? = some a) (hn0 : 0 < n) (hg : a.gen ≤ 1000000) (hk : k.length = 32) (ht : t ≤ m) (hm : m ≤ 1099511627776) (hL' : [⟨a.gen + 1, m⟩] = L') (hn : L'.length = n3) :
    Calls Tryd.prog 25 #[.agg (ROR k (.slice (some ⟨g, 0, none⟩) n c1) t), .int .i64 m] w fun e w' => ∃ v, e = .returned (.tuple #[.agg (ROR k v m), .int .i64 0]) ∧ Ow w' w.heap.size 2 v n3 (fl e2 L') ∧ Below w.heap.size w w' := by
  subst hL'
  subst hn
  exact rrestart_c w k g n c1 L t hV a hL hn0 ⟨a.gen + 1, m⟩ rfl hg hk ht hm
theorem Ep.Good.mades {L : List Ep.Sl} {t : Nat} (h : Ep.Good L t) : ∀ s ∈ L, s.made ≤ 1099511627776 := by
  intro s hs
  have ht := h.top
  rcases h.two with ⟨a, rfl, h1, h2⟩ | ⟨a, b, rfl, h1, h2, h3, h4⟩
  · simp only [List.mem_cons, List.not_mem_nil, or_false] at hs; subst hs; omega
  · simp only [List.mem_cons, List.not_mem_nil, or_false] at hs
    rcases hs with rfl | rfl <;> omega
attribute [local irreducible] ESL EPS ROR ACT RSL
set_option maxRecDepth 100000 in
set_option maxHeartbeats 8000000 in
theorem EpochActs_w (w : World) (k : L8) (x0 : Int) (va : Value) (acts : List (Int × Int)) (hT : KT w ∧ 0 < w.heap.size) (hk : k.length = 32) (hv : SV w va acts.length (fl eA acts)) (har : ∀ p ∈ acts, 0 ≤ p.1 ∧ p.1 < 256) :
    Calls Tryd.prog 6 #[.agg (cs U8 k), .int .i64 x0, va] w fun e w' => e = .returned (.bool true) ∧ Below w.heap.size w w' := by
  have HT := hid hT
  have KX : Hid (∀ w', Below w.heap.size w w' → KT w' ∧ 0 < w'.heap.size) := hid fun w' h => ⟨hT.1.below h hT.2, Nat.lt_of_lt_of_le hT.2 h.size⟩
  by_cases hx0 : 0 ≤ x0 ∧ x0 ≤ 1099511627776
  case neg =>
    have HCK := hid (decide_eq_false hx0)
    obtain ⟨x, hxx⟩ : ∃ x, x = x0 := ⟨_, rfl⟩
    rw [← hxx] at hx0 HCK ⊢
    have hx := hx0
    clear hT hxx hx0 KX
    have M0 := Mm.start no w
    go_enter Tryd.func6, Tryd.ntmps6
    have M2 := (M0.alloc (cs U8 k) 23 (by decide))
    try simp only [World.size_alloc] at M2
    go_upto_region 1 with fail
    obtain ⟨w1, hw1⟩ : ∃ w1, w1 = (w.alloc (.cells (cs U8 k) 23)) := ⟨_, rfl⟩
    rw [← hw1] at M2 ⊢
    clear hw1
    refine wp_region_lin (.op 0 (.op 1 .done)) (by rfl) ?_
    refine wpT_callv 17 M2 (v := .bool true) rfl rfl rfl (by go_simp) (alive14_v HT.out M2.end_) (fun w3 M4 => ?_)
    refine wpT_valp 18 (v := .bool false) rfl rfl rfl (by go_simp) ?_
    dsimp only [wpT]
    try simp only [Act.put, List.setIfInBounds_toArray, List.set_cons_succ, List.set_cons_zero]
    go_upto_region 3 with fail
    refine wp_region_lin (.op 0 (.op 1 (.op 2 (.op 3 .done)))) (by rfl) ?_
    refine wpT_ld0 19 Tryd.underlying23 rfl inf_key (w.heap.size) (cs U8 k) rfl rfl rfl (by go_simp) (M4.row (b := w.heap.size) (c := cs U8 k) (by simp)) (by simp [hk, ROR_size, EPS_size, ACT_size, Ep.pub_len]) rfl ?_
    refine wpT_valp 20 (v := .int .i64 x) rfl rfl rfl (by go_simp) ?_
    refine wpT_callv 21 M4 (v := .pointer none) rfl rfl rfl (by go_simp) (new_bad w3 k x hk hx) (fun w5 M6 => ?_)
    refine wpT_valp 7 (v := .pointer none) rfl rfl rfl (by go_simp) ?_
    dsimp only [wpT]
    try simp only [Act.put, List.setIfInBounds_toArray, List.set_cons_succ, List.set_cons_zero]
    go_upto_region 4 with fail
    refine wp_region_lin (.op 0 (.op 1 (.op 2 (.op 3 (.op 4 .done))))) (by rfl) ?_
    refine wpT_valp 22 (v := .pointer none) rfl rfl rfl (by go_simp) ?_
    refine wpT_valp 23 (v := .bool false) rfl rfl rfl (by go_simp) ?_
    refine wpT_valp 24 (v := .int .i64 x) rfl rfl rfl (by go_simp) ?_
    refine wpT_callv 25 M6 (v := .bool false) rfl rfl rfl (by go_simp) (clock_b w5 _ HCK.out) (fun w7 M8 => ?_)
    try simp only [Act.put, List.setIfInBounds_toArray, List.set_cons_succ, List.set_cons_zero]
    refine wpT_valp 26 (v := .bool false) rfl rfl rfl (by go_simp) ?_
    dsimp only [wpT]
    try simp only [Act.put, List.setIfInBounds_toArray, List.set_cons_succ, List.set_cons_zero]
    go_upto_region 6 with fail
    refine wp_region_lin (.op 0 (.op 1 .done)) (by rfl) ?_
    refine wpT_valp 27 (v := .pointer none) rfl rfl rfl (by go_simp) ?_
    refine wpT_valp 28 (v := .bool true) rfl rfl rfl (by go_simp) ?_
    dsimp only [wpT]
    try simp only [Act.put, List.setIfInBounds_toArray, List.set_cons_succ, List.set_cons_zero]
    go_upto_region 7 with fail
    refine wp_region_lin (.op 0 .done) (by rfl) ?_
    refine wpT_valp 6 (v := .bool true) rfl rfl rfl (by go_simp) ?_
    dsimp only [wpT]
    try simp only [Act.put, List.setIfInBounds_toArray, List.set_cons_succ, List.set_cons_zero]
    go_wp2_with fail
    go_ret
    exact ⟨rfl, M8.end_⟩
  case pos =>
    obtain ⟨x, rfl⟩ : ∃ x : Nat, x0 = x := ⟨x0.toNat, by omega⟩
    have hx : x ≤ 1099511627776 := by omega
    have HCK := hid (decide_eq_true hx0)
    have HT3 := hid (show KT w ∧ 0 < w.heap.size ∧ w.heap.size ≤ w.heap.size from ⟨hT.1, hT.2, Nat.le_refl _⟩)
    obtain ⟨n0, hn0⟩ : ∃ n, acts.length = n := ⟨_, rfl⟩
    rw [hn0] at hv
    obtain ⟨aa, ca, rfl, hca, hcm, _⟩ := id hv
    have hn0m : n0 ≤ 9223372036854775807 := by unfold maxLen at hcm; omega
    have HV0 := hid hv
    have HAR := hid har
    clear hT hv har hca hcm hx0
    have M0 := Mm.start no w
    go_enter Tryd.func6, Tryd.ntmps6
    have M2 := (M0.alloc (cs U8 k) 23 (by decide))
    try simp only [World.size_alloc] at M2
    go_upto_region 1 with fail
    obtain ⟨w1, hw1⟩ : ∃ w1, w1 = (w.alloc (.cells (cs U8 k) 23)) := ⟨_, rfl⟩
    rw [← hw1] at M2 ⊢
    clear hw1
    refine wp_region_lin (.op 0 (.op 1 .done)) (by rfl) ?_
    refine wpT_callv 17 M2 (v := .bool true) rfl rfl rfl (by go_simp) (alive14_v HT.out M2.end_) (fun w3 M4 => ?_)
    refine wpT_valp 18 (v := .bool false) rfl rfl rfl (by go_simp) ?_
    dsimp only [wpT]
    try simp only [Act.put, List.setIfInBounds_toArray, List.set_cons_succ, List.set_cons_zero]
    go_upto_region 3 with fail
    refine wp_region_lin (.op 0 (.op 1 (.op 2 (.op 3 .done)))) (by rfl) ?_
    refine wpT_ld0 19 Tryd.underlying23 rfl inf_key (w.heap.size) (cs U8 k) rfl rfl rfl (by go_simp) (M4.row (b := w.heap.size) (c := cs U8 k) (by simp)) (by simp [hk, ROR_size, EPS_size, ACT_size, Ep.pub_len]) rfl ?_
    refine wpT_valp 20 (v := .int .i64 x) rfl rfl rfl (by go_simp) ?_
    refine wpT_ronew (t' := x) (n' := 1) 21 M4 rfl rfl rfl (by go_simp) (new_v HT.out M4.end_ hk x x rfl hx) rfl (fun gb g0 c0 cu0 wg0 hgb R0 Mg0 => ?_)
    refine wpT_valp 7 (v := .pointer (some ⟨gb, 0, none⟩)) rfl rfl rfl (by go_simp) ?_
    dsimp only [wpT]
    try simp only [Act.put, List.setIfInBounds_toArray, List.set_cons_succ, List.set_cons_zero]
    go_upto_region 4 with fail
    refine wp_region_lin (.op 0 (.op 1 (.op 2 (.op 3 (.op 4 .done))))) (by rfl) ?_
    refine wpT_valp 22 (v := .pointer (some ⟨gb, 0, none⟩)) rfl rfl rfl (by go_simp) ?_
    refine wpT_valp 23 (v := .bool true) rfl rfl rfl (by go_simp) ?_
    refine wpT_valp 24 (v := .int .i64 x) rfl rfl rfl (by go_simp) ?_
    refine wpT_callv 25 Mg0 (v := .bool true) rfl rfl rfl (by go_simp) (clock_b wg0 _ HCK.out) (fun w5 M6 => ?_)
    try simp only [Act.put, List.setIfInBounds_toArray, List.set_cons_succ, List.set_cons_zero]
    refine wpT_valp 26 (v := .bool false) rfl rfl rfl (by go_simp) ?_
    dsimp only [wpT]
    try simp only [Act.put, List.setIfInBounds_toArray, List.set_cons_succ, List.set_cons_zero]
    go_upto_region 6 with fail
    refine wp_region_lin (.op 0 (.op 1 .done)) (by rfl) ?_
    refine wpT_valp 27 (v := .pointer (some ⟨gb, 0, none⟩)) rfl rfl rfl (by go_simp) ?_
    refine wpT_valp 28 (v := .bool false) rfl rfl rfl (by go_simp) ?_
    dsimp only [wpT]
    try simp only [Act.put, List.setIfInBounds_toArray, List.set_cons_succ, List.set_cons_zero]
    go_upto_region 8 with fail
    refine wp_region_lin (.op 0 (.op 1 (.op 2 (.op 3 (.op 4 .done))))) (by rfl) ?_
    refine wpT_ld0 29 Tryd.underlying23 rfl inf_key (w.heap.size) (cs U8 k) rfl rfl rfl (by go_simp) (M6.row (b := w.heap.size) (c := cs U8 k) (by simp)) (by simp [hk, ROR_size, EPS_size, ACT_size, Ep.pub_len]) rfl ?_
    refine wpT_valp 30 (v := .int .i64 x) rfl rfl rfl (by go_simp) ?_
    refine wpT_rro (F := fun v => .agg (ROR k v x)) 31 M6 rfl rfl rfl (by go_simp) (rnew_y w5 k x hk) (by omega) (fun gr0 cr0 curr0 wgr0 Q0 Mgr0 => ?_)
    refine wpT_new (z := .agg (ROR (zs 32) (.slice none 0 0) 0)) 8 Mgr0 (by kernel_rfl) (by decide) rfl rfl rfl rfl (fun gm w8 M9 => ?_)
    try dsimp only [Value.cells] at M9
    try simp only [Act.put, List.setIfInBounds_toArray, List.set_cons_succ, List.set_cons_zero]
    refine wpT_st0 M9 0 (ROR k (.slice (some ⟨gr0, 0, none⟩) 1 cr0) x) inf_rrt rfl rfl rfl rfl (by go_simp) (by go_simp) (by simp [hk, ROR_size, EPS_size, ACT_size, Ep.pub_len]) (by simp [hk, ROR_size, EPS_size, ACT_size, Ep.pub_len]) (by simp [go_sem]) rfl (fun w10 M11 => ?_)
    dsimp only [List.set] at M11
    dsimp only [wpT]
    try simp only [Act.put, List.setIfInBounds_toArray, List.set_cons_succ, List.set_cons_zero]
    go_upto_region 9 with fail
    refine wp_region_lin (.op 0 .done) (by rfl) ?_
    refine wpT_valp 9 (v := .int .i64 0) rfl rfl rfl (by go_simp) ?_
    dsimp only [wpT]
    try simp only [Act.put, List.setIfInBounds_toArray, List.set_cons_succ, List.set_cons_zero]
    go_wp2_with fail
    go_loopw [9] (fun x9 wr => ∃ (i g c : Nat) (cur : Array Value) (gr cr : Nat) (curr : Array Value) (n : Nat) (L : List Ep.Sl) (t : Nat), i ≤ 40 ∧ x9 = .int .i64 i ∧ Rw w.heap.size 67 (.slice (some ⟨g, 0, none⟩) n c) n (fl (e67 k) L) g c cur ∧ Rw w.heap.size 2 (.slice (some ⟨gr, 0, none⟩) n cr) n (fl e2 L) gr cr curr ∧ L.length = n ∧ Ep.Good L t ∧ Ep.gen0 L ≤ i ∧
      Mm no w [(g, cur), (gb, ROR k (.slice (some ⟨g, 0, none⟩) n c) t), (gr, curr), (gm, ROR k (.slice (some ⟨gr, 0, none⟩) n cr) t), (w.heap.size, cs U8 k)] wr) (fun x _ => 40 - (intOf x).toNat)
    case atStart => exact ⟨0, g0, c0, cu0, gr0, cr0, curr0, 1, [⟨0, x⟩], x, by omega, rfl, R0, Q0, rfl, .one hx, Nat.le_refl _, M11.p4⟩
    case round =>
      clear M11 R0 Q0
      obtain ⟨i, g, c, cur, gr, cr, curr, n, L, t, hi, rfl, R, Q, hn, G, hgi, M⟩ := hrel
      obtain ⟨a, ha, hga, hma⟩ := G.hd
      have HA := hid ha
      have HNL := hid hn
      have HMA := hid G.mades
      have hnl := G.len
      rw [hn] at hnl
      have hn1 : 0 < n := by omega
      have htop := G.top
      by_cases hin : i < n0
      case neg =>
        have hlt : ¬ (i : Int) < (n0 : Int) := by omega
        have hcr0 : curr[0]? = some (.int .i64 a.gen) := by
          have := grow_cell e2_len HNL.out Q.tk HA.out 0 (by decide)
          simp only [Nat.zero_mul, Nat.add_zero] at this
          rw [this]; exact e2_0 a
        have hn01 : (0 : Int) < (n : Int) := by omega
        have hn02 : ¬ n = 0 := by omega
        clear ha G hga hma
        go_upto_region 24 with fail
        refine wp_region_lin (.op 0 (.op 1 (.op 2 (.op 3 (.op 4 (.op 5 (.op 6 (.op 7 .done)))))))) (by rfl) ?_
        refine wpT_valp 83 (v := .pointer (some ⟨gb, 0, none⟩)) rfl rfl rfl (by go_simp) ?_
        refine wpT_callv 84 M (v := .tuple #[.agg (cs U8 (Ep.pub k a.gen)), .int .i64 a.gen]) rfl rfl rfl (by go_simp) (public_x (ro_at (b := gb) (t := t) M (A := []) (C := [(gr, curr), (gm, ROR k (.slice (some ⟨gr, 0, none⟩) n cr) t), (w.heap.size, cs U8 k)]) rfl R hn hgb hk (by omega)) (a := a) HA.out rfl rfl) (fun w1 M2 => ?_)
        refine wpT_valp 82 (v := .tuple #[.agg (cs U8 (Ep.pub k a.gen)), .int .i64 a.gen]) rfl rfl rfl (by go_simp) ?_
        refine wpT_valp 85 (v := .agg (cs U8 (Ep.pub k a.gen))) rfl rfl rfl (by go_simp) ?_
        try simp only [Act.put, List.setIfInBounds_toArray, List.set_cons_succ, List.set_cons_zero]
        refine wpT_valp 86 (v := .int .i64 a.gen) rfl rfl rfl (by go_simp) ?_
        refine wpT_new (z := .agg (cs U8 (zs 32))) 15 M2 (by kernel_rfl) (by decide) rfl rfl rfl rfl (fun b3 w4 M5 => ?_)
        try dsimp only [Value.cells] at M5
        refine wpT_st0 M5 0 (cs U8 (Ep.pub k a.gen)) inf_key rfl rfl rfl rfl (by go_simp) (by go_simp) (by simp [hk, ROR_size, EPS_size, ACT_size, RSL_size, Ep.pub_len]) (by simp [hk, ROR_size, EPS_size, ACT_size, RSL_size, Ep.pub_len]) (by simp [go_sem]) rfl (fun w6 M7 => ?_)
        dsimp only [List.set] at M7
        refine wpT_valp 16 (v := .int .i64 a.gen) rfl rfl rfl (by go_simp) ?_
        dsimp only [wpT]
        try simp only [Act.put, List.setIfInBounds_toArray, List.set_cons_succ, List.set_cons_zero]
        go_upto_region 25 with fail
        refine wp_region_seq 15 [87, 88, 89, 90, 91, 92, 93, 94, 95, 96, 97, 98, 99, 100, 6] [] [] [] (.done) (Mm no w _) (by kernel_rfl) (by kernel_rfl) (by kernel_rfl) (fun d _ _ _ _ h => by cases d <;> exact h) (by rfl) M7.size (fun _ _ h k => h.sf k) M7 ?_
        simp only [List.take_succ_cons, List.take_zero]
        refine SeqA.pure (.pointer (some ⟨gb, 0, none⟩)) (fun w' => by go_simp) rfl rfl ?_
        refine SeqA.ld0 Tryd.underlying49 rfl inf_rrt (gm) (ROR k (.slice (some ⟨gr, 0, none⟩) n cr) t) rfl (by go_simp) (fun _ M => M.row (b := gm) (c := ROR k (.slice (some ⟨gr, 0, none⟩) n cr) t) (by simp)) (by simp [hk, ROR_size, EPS_size, ACT_size, RSL_size, Ep.pub_len]) rfl ?_
        refine SeqA.call _ _ _ (fun w' => by go_simp) (fun w' hI _ => equal_c w' w.heap.size gb k L t t _ gr n cr (ro_at (b := gb) (t := t) hI (A := [(b3, cs U8 (Ep.pub k a.gen))]) (C := [(gr, curr), (gm, ROR k (.slice (some ⟨gr, 0, none⟩) n cr) t), (w.heap.size, cs U8 k)]) rfl R hn hgb hk (by omega)) (Q.ow hI (by simp)).sv HNL.out (by omega) HMA.out (KX.out _ hI.end_)) M7.size rfl rfl ?_
        refine SeqA.pure (.bool true) (fun w' => by go_simp) rfl rfl ?_
        refine SeqA.ld0 Tryd.underlying23 rfl inf_key (b3) (cs U8 (Ep.pub k a.gen)) rfl (by go_simp) (fun _ M => M.row (b := b3) (c := cs U8 (Ep.pub k a.gen)) (by simp)) (by simp [hk, ROR_size, EPS_size, ACT_size, RSL_size, Ep.pub_len]) (by simp [Region.wanted, yielded, Act.put]) ?_
        simp only [Act.put, List.setIfInBounds_toArray, List.set_cons_succ, List.set_cons_zero]
        refine SeqA.ld0 Tryd.underlying23 rfl inf_key (w.heap.size) (cs U8 k) rfl (by go_simp) (fun _ M => M.row (b := w.heap.size) (c := cs U8 k) (by simp)) (by simp [hk, ROR_size, EPS_size, ACT_size, RSL_size, Ep.pub_len]) (by simp [Region.wanted, yielded, Act.put]) ?_
        refine SeqA.pure (.pointer (some ⟨gm, 32, none⟩)) (fun w' => by go_simp) rfl (by simp [Region.wanted, yielded, Act.put]) ?_
        refine SeqA.read (.slice (some ⟨gr, 0, none⟩) n cr) (fun w' M => by have c0 := (ror_c32 hk) (M.row (b := gm) (c := ROR k (.slice (some ⟨gr, 0, none⟩) n cr) t) (by simp)); go_simp) rfl (by simp [Region.wanted, yielded, Act.put]) ?_
        refine SeqA.pure (.pointer (some ⟨gr, 0, none⟩)) (fun w' => by go_simp) rfl (by simp [Region.wanted, yielded, Act.put]) ?_
        refine SeqA.pure (.pointer (some ⟨gr, 0, none⟩)) (fun w' => by go_simp) rfl (by simp [Region.wanted, yielded, Act.put]) ?_
        refine SeqA.read (.int .i64 a.gen) (fun w' M => by have c0 := cell_at (M.row (b := gr) (c := curr) (by simp)) hcr0; go_simp) rfl (by simp [Region.wanted, yielded, Act.put]) ?_
        simp only [Act.put, List.setIfInBounds_toArray, List.set_cons_succ, List.set_cons_zero]
        refine SeqA.call _ _ _ (fun w' => by go_simp) (fun w' hI _ => rpublic14_c w' k a.gen hk) M7.size rfl (by simp [Region.wanted, yielded, Act.put]) ?_
        refine SeqA.pure (.bool true) (fun w' => by have q := eqKk w' (Ep.pub k a.gen) (Ep.pub_len _ _); go_simp) rfl (by simp [Region.wanted, yielded, Act.put]) ?_
        refine SeqA.pure (.bool true) (fun w' => by go_simp) rfl rfl ?_
        refine SeqA.pure (.bool true) (fun w' => by go_simp) rfl rfl ?_
        refine SeqA.nil (fun w8 M9 hz => ?_)
        show wpT _ _ _ _ _ _
        simp only [Act.put, List.setIfInBounds_toArray, List.set_cons_succ, List.set_cons_zero]
        dsimp only [wpT]
        go_wp2_with fail
        go_ret
        exact ⟨rfl, M9.end_⟩
      case pos =>
        have hlt : (i : Int) < (n0 : Int) := by omega
        by_cases h40 : i < 40
        case neg =>
          have h40' : ¬ (i : Int) < 40 := by omega
          have hcr0 : curr[0]? = some (.int .i64 a.gen) := by
            have := grow_cell e2_len HNL.out Q.tk HA.out 0 (by decide)
            simp only [Nat.zero_mul, Nat.add_zero] at this
            rw [this]; exact e2_0 a
          have hn01 : (0 : Int) < (n : Int) := by omega
          have hn02 : ¬ n = 0 := by omega
          clear ha G hga hma
          go_upto_region 24 with fail
          refine wp_region_lin (.op 0 (.op 1 (.op 2 (.op 3 (.op 4 (.op 5 (.op 6 (.op 7 .done)))))))) (by rfl) ?_
          refine wpT_valp 83 (v := .pointer (some ⟨gb, 0, none⟩)) rfl rfl rfl (by go_simp) ?_
          refine wpT_callv 84 M (v := .tuple #[.agg (cs U8 (Ep.pub k a.gen)), .int .i64 a.gen]) rfl rfl rfl (by go_simp) (public_x (ro_at (b := gb) (t := t) M (A := []) (C := [(gr, curr), (gm, ROR k (.slice (some ⟨gr, 0, none⟩) n cr) t), (w.heap.size, cs U8 k)]) rfl R hn hgb hk (by omega)) (a := a) HA.out rfl rfl) (fun w1 M2 => ?_)
          refine wpT_valp 82 (v := .tuple #[.agg (cs U8 (Ep.pub k a.gen)), .int .i64 a.gen]) rfl rfl rfl (by go_simp) ?_
          refine wpT_valp 85 (v := .agg (cs U8 (Ep.pub k a.gen))) rfl rfl rfl (by go_simp) ?_
          try simp only [Act.put, List.setIfInBounds_toArray, List.set_cons_succ, List.set_cons_zero]
          refine wpT_valp 86 (v := .int .i64 a.gen) rfl rfl rfl (by go_simp) ?_
          refine wpT_new (z := .agg (cs U8 (zs 32))) 15 M2 (by kernel_rfl) (by decide) rfl rfl rfl rfl (fun b3 w4 M5 => ?_)
          try dsimp only [Value.cells] at M5
          refine wpT_st0 M5 0 (cs U8 (Ep.pub k a.gen)) inf_key rfl rfl rfl rfl (by go_simp) (by go_simp) (by simp [hk, ROR_size, EPS_size, ACT_size, RSL_size, Ep.pub_len]) (by simp [hk, ROR_size, EPS_size, ACT_size, RSL_size, Ep.pub_len]) (by simp [go_sem]) rfl (fun w6 M7 => ?_)
          dsimp only [List.set] at M7
          refine wpT_valp 16 (v := .int .i64 a.gen) rfl rfl rfl (by go_simp) ?_
          dsimp only [wpT]
          try simp only [Act.put, List.setIfInBounds_toArray, List.set_cons_succ, List.set_cons_zero]
          go_upto_region 25 with fail
          refine wp_region_seq 15 [87, 88, 89, 90, 91, 92, 93, 94, 95, 96, 97, 98, 99, 100, 6] [] [] [] (.done) (Mm no w _) (by kernel_rfl) (by kernel_rfl) (by kernel_rfl) (fun d _ _ _ _ h => by cases d <;> exact h) (by rfl) M7.size (fun _ _ h k => h.sf k) M7 ?_
          simp only [List.take_succ_cons, List.take_zero]
          refine SeqA.pure (.pointer (some ⟨gb, 0, none⟩)) (fun w' => by go_simp) rfl rfl ?_
          refine SeqA.ld0 Tryd.underlying49 rfl inf_rrt (gm) (ROR k (.slice (some ⟨gr, 0, none⟩) n cr) t) rfl (by go_simp) (fun _ M => M.row (b := gm) (c := ROR k (.slice (some ⟨gr, 0, none⟩) n cr) t) (by simp)) (by simp [hk, ROR_size, EPS_size, ACT_size, RSL_size, Ep.pub_len]) rfl ?_
          refine SeqA.call _ _ _ (fun w' => by go_simp) (fun w' hI _ => equal_c w' w.heap.size gb k L t t _ gr n cr (ro_at (b := gb) (t := t) hI (A := [(b3, cs U8 (Ep.pub k a.gen))]) (C := [(gr, curr), (gm, ROR k (.slice (some ⟨gr, 0, none⟩) n cr) t), (w.heap.size, cs U8 k)]) rfl R hn hgb hk (by omega)) (Q.ow hI (by simp)).sv HNL.out (by omega) HMA.out (KX.out _ hI.end_)) M7.size rfl rfl ?_
          refine SeqA.pure (.bool true) (fun w' => by go_simp) rfl rfl ?_
          refine SeqA.ld0 Tryd.underlying23 rfl inf_key (b3) (cs U8 (Ep.pub k a.gen)) rfl (by go_simp) (fun _ M => M.row (b := b3) (c := cs U8 (Ep.pub k a.gen)) (by simp)) (by simp [hk, ROR_size, EPS_size, ACT_size, RSL_size, Ep.pub_len]) (by simp [Region.wanted, yielded, Act.put]) ?_
          simp only [Act.put, List.setIfInBounds_toArray, List.set_cons_succ, List.set_cons_zero]
          refine SeqA.ld0 Tryd.underlying23 rfl inf_key (w.heap.size) (cs U8 k) rfl (by go_simp) (fun _ M => M.row (b := w.heap.size) (c := cs U8 k) (by simp)) (by simp [hk, ROR_size, EPS_size, ACT_size, RSL_size, Ep.pub_len]) (by simp [Region.wanted, yielded, Act.put]) ?_
          refine SeqA.pure (.pointer (some ⟨gm, 32, none⟩)) (fun w' => by go_simp) rfl (by simp [Region.wanted, yielded, Act.put]) ?_
          refine SeqA.read (.slice (some ⟨gr, 0, none⟩) n cr) (fun w' M => by have c0 := (ror_c32 hk) (M.row (b := gm) (c := ROR k (.slice (some ⟨gr, 0, none⟩) n cr) t) (by simp)); go_simp) rfl (by simp [Region.wanted, yielded, Act.put]) ?_
          refine SeqA.pure (.pointer (some ⟨gr, 0, none⟩)) (fun w' => by go_simp) rfl (by simp [Region.wanted, yielded, Act.put]) ?_
          refine SeqA.pure (.pointer (some ⟨gr, 0, none⟩)) (fun w' => by go_simp) rfl (by simp [Region.wanted, yielded, Act.put]) ?_
          refine SeqA.read (.int .i64 a.gen) (fun w' M => by have c0 := cell_at (M.row (b := gr) (c := curr) (by simp)) hcr0; go_simp) rfl (by simp [Region.wanted, yielded, Act.put]) ?_
          simp only [Act.put, List.setIfInBounds_toArray, List.set_cons_succ, List.set_cons_zero]
          refine SeqA.call _ _ _ (fun w' => by go_simp) (fun w' hI _ => rpublic14_c w' k a.gen hk) M7.size rfl (by simp [Region.wanted, yielded, Act.put]) ?_
          refine SeqA.pure (.bool true) (fun w' => by have q := eqKk w' (Ep.pub k a.gen) (Ep.pub_len _ _); go_simp) rfl (by simp [Region.wanted, yielded, Act.put]) ?_
          refine SeqA.pure (.bool true) (fun w' => by go_simp) rfl rfl ?_
          refine SeqA.pure (.bool true) (fun w' => by go_simp) rfl rfl ?_
          refine SeqA.nil (fun w8 M9 hz => ?_)
          show wpT _ _ _ _ _ _
          simp only [Act.put, List.setIfInBounds_toArray, List.set_cons_succ, List.set_cons_zero]
          dsimp only [wpT]
          go_wp2_with fail
          go_ret
          exact ⟨rfl, M9.end_⟩
        case pos =>
          have h40' : (i : Int) < 40 := by omega
          have hi0 : (0 : Int) ≤ (i : Int) := by omega
          obtain ⟨ga, oa, ca', hee⟩ := sv_some eA_len (by decide) HV0.out (by omega)
          injection hee with e1 e2 e3
          subst e1; subst e3
          have HV := HV0
          obtain ⟨pq, hpq⟩ : ∃ p, acts[i]? = some p := ⟨_, List.getElem?_eq_getElem (by omega)⟩
          obtain ⟨q, e⟩ := pq
          have hqr := HAR.out _ (List.mem_of_getElem? hpq)
          have HEA : Hid (∀ w', Below w.heap.size w w' → exLoad Tryd.prog 52 (.pointer (some ⟨ga, oa + i * 2, none⟩)) w' = .ok (.value (.agg (ACT q e))) w') := hid fun w' h =>
            sv_load eA_len Tryd.underlying52 rfl inf_act (by decide) (SV.below HV.out h) hpq (ACT q e) rfl
          obtain ⟨rq, hrq⟩ : ∃ r, r = q % 4 := ⟨_, rfl⟩
          have HRQ2 := hid hrq.symm
          have HRQ1 := hid (show q.tmod 4 = rq by rw [Int.tmod_eq_emod_of_nonneg hqr.1, hrq])
          clear hpq hqr hrq
          have HN0 := hid hn
          have HMO := hid G.mades
          have H9 := hid (show L.length ≤ 900 by omega)
          have hgb1 : a.gen ≤ 1000000 := by omega
          by_cases hlate : (t : Int) ≤ e ∧ 0 ≤ e ∧ e ≤ 1099511627776
          · obtain ⟨m, rfl⟩ : ∃ m : Nat, e = m := ⟨e.toNat, by omega⟩
            have htm : t ≤ m := by omega
            have hmm : m ≤ 1099511627776 := by omega
            by_cases hkind : rq = 1
            · obtain ⟨Ln, hLn⟩ : ∃ L, ([⟨a.gen + 1, m⟩] : List Ep.Sl) = L := ⟨_, rfl⟩
              have HLN := hid hLn
              obtain ⟨nn, hnn⟩ : ∃ n, Ln.length = n := ⟨_, rfl⟩
              have GN : Ep.Good Ln m := by rw [← hLn]; exact .one (by omega)
              have hgen : Ep.gen0 Ln = Ep.gen0 L + 1 := by rw [← hLn, hga]; rfl
              have HGI := hid (show Ep.gen0 Ln ≤ i + 1 by omega)
              have hnl2 := GN.len
              rw [hnn] at hnl2
              have HNL := hid hnn
              have HMA := hid GN.mades
              have HGD := hid GN
              clear ha hLn hlate GN hnn G hga hma hgen
              go_upto_region 12 with fail
              refine wp_region_lin (.op 0 (.op 1 (.op 2 (.op 3 (.op 4 (.op 5 .done)))))) (by rfl) ?_
              refine wpT_valp 42 (v := .slice (some ⟨ga, oa, none⟩) n0 ca) rfl rfl rfl (by go_simp) ?_
              refine wpT_valp 43 (v := .int .i64 i) rfl rfl rfl (by go_simp) ?_
              refine wpT_valp 44 (v := .pointer (some ⟨ga, oa + i * 2, none⟩)) rfl rfl rfl (by go_simp) ?_
              refine wpT_ldy 45 (.pointer (some ⟨ga, oa + i * 2, none⟩)) (.agg (ACT q m)) rfl rfl rfl (by go_simp) (HEA.out _ M.end_) rfl ?_
              try simp only [Act.put, List.setIfInBounds_toArray, List.set_cons_succ, List.set_cons_zero]
              refine wpT_new (z := .agg (ACT 0 0)) 10 M (by kernel_rfl) (by decide) rfl rfl rfl rfl (fun b1 w2 M3 => ?_)
              try dsimp only [Value.cells] at M3
              refine wpT_st0 M3 0 (ACT q m) inf_act rfl rfl rfl rfl (by go_simp) (by go_simp) (by simp [hk, ROR_size, EPS_size, ACT_size, RSL_size, Ep.pub_len]) (by simp [hk, ROR_size, EPS_size, ACT_size, RSL_size, Ep.pub_len]) (by simp [go_sem]) rfl (fun w4 M5 => ?_)
              dsimp only [List.set] at M5
              dsimp only [wpT]
              try simp only [Act.put, List.setIfInBounds_toArray, List.set_cons_succ, List.set_cons_zero]
              go_upto_region 13 with fail
              refine wp_region_lin (.op 0 (.op 1 (.op 2 (.op 3 .done)))) (by rfl) ?_
              refine wpT_valp 46 (v := .pointer (some ⟨b1, 0, none⟩)) rfl rfl rfl (by go_simp) ?_
              refine wpT_valp 47 (v := .int .u8 q) rfl rfl rfl (by have c0 := act_c0 (M5.row (b := b1) (c := ACT q m) (by simp)); go_simp) ?_
              refine wpT_valp 48 (v := .int .u8 rq) rfl rfl rfl (by have h := HRQ1.out; have h2 := HRQ2.out; go_simp) ?_
              refine wpT_valp 49 (v := .bool true) rfl rfl rfl (by go_simp) ?_
              dsimp only [wpT]
              try simp only [Act.put, List.setIfInBounds_toArray, List.set_cons_succ, List.set_cons_zero]
              go_upto_region 14 with fail
              refine wp_region_lin (.op 0 (.op 1 (.op 2 (.op 3 (.op 4 (.op 5 (.op 6 (.op 7 (.op 8 (.op 9 .done)))))))))) (by rfl) ?_
              refine wpT_ld0 51 Tryd.underlying49 rfl inf_rrt (gm) (ROR k (.slice (some ⟨gr, 0, none⟩) n cr) t) rfl rfl rfl (by go_simp) (M5.row (b := gm) (c := ROR k (.slice (some ⟨gr, 0, none⟩) n cr) t) (by simp)) (by simp [hk, ROR_size, EPS_size, ACT_size, RSL_size, Ep.pub_len]) rfl ?_
              refine wpT_valp 52 (v := .pointer (some ⟨b1, 1, none⟩)) rfl rfl rfl (by go_simp) ?_
              refine wpT_valp 53 (v := .int .i64 m) rfl rfl rfl (by have c0 := act_c1 (M5.row (b := b1) (c := ACT q m) (by simp)); go_simp) ?_
              refine wpT_rro (F := fun v => .tuple #[.agg (ROR k v m), .int .i64 0]) 54 M5 rfl rfl rfl (by go_simp) (rrestart_y (t := t) (m := m) (Q.ow M5 (by simp)).sv HA.out (by omega) (by omega) hk (by omega) (by omega) HLN.out HNL.out) (by omega) (fun grn crn currn wgrn Qn Mgrn => ?_)
              try simp only [Act.put, List.setIfInBounds_toArray, List.set_cons_succ, List.set_cons_zero]
              refine wpT_valp 50 (v := .tuple #[.agg (ROR k (.slice (some ⟨grn, 0, none⟩) nn crn) m), .int .i64 0]) rfl rfl rfl (by go_simp) ?_
              refine wpT_valp 55 (v := .agg (ROR k (.slice (some ⟨grn, 0, none⟩) nn crn) m)) rfl rfl rfl (by go_simp) ?_
              refine wpT_valp 56 (v := .int .i64 0) rfl rfl rfl (by go_simp) ?_
              refine wpT_new (z := .agg (ROR (zs 32) (.slice none 0 0) 0)) 11 Mgrn (by kernel_rfl) (by decide) rfl rfl rfl rfl (fun b6 w7 M8 => ?_)
              try dsimp only [Value.cells] at M8
              refine wpT_st0 M8 0 (ROR k (.slice (some ⟨grn, 0, none⟩) nn crn) m) inf_rrt rfl rfl rfl rfl (by go_simp) (by go_simp) (by simp [hk, ROR_size, EPS_size, ACT_size, RSL_size, Ep.pub_len]) (by simp [hk, ROR_size, EPS_size, ACT_size, RSL_size, Ep.pub_len]) (by simp [go_sem]) rfl (fun w9 M10 => ?_)
              dsimp only [List.set] at M10
              try simp only [Act.put, List.setIfInBounds_toArray, List.set_cons_succ, List.set_cons_zero]
              refine wpT_valp 12 (v := .int .i64 0) rfl rfl rfl (by go_simp) ?_
              dsimp only [wpT]
              try simp only [Act.put, List.setIfInBounds_toArray, List.set_cons_succ, List.set_cons_zero]
              go_upto_region 15 with fail
              refine wp_region_lin (.op 0 (.op 1 .done)) (by rfl) ?_
              refine wpT_ld0 57 Tryd.underlying49 rfl inf_rrt (b6) (ROR k (.slice (some ⟨grn, 0, none⟩) nn crn) m) rfl rfl rfl (by go_simp) (M10.row (b := b6) (c := ROR k (.slice (some ⟨grn, 0, none⟩) nn crn) m) (by simp)) (by simp [hk, ROR_size, EPS_size, ACT_size, RSL_size, Ep.pub_len]) rfl ?_
              refine wpT_st0 M10 6 (ROR k (.slice (some ⟨grn, 0, none⟩) nn crn) m) inf_rrt rfl rfl rfl rfl (by go_simp) (by go_simp) (by simp [hk, ROR_size, EPS_size, ACT_size, RSL_size, Ep.pub_len]) (by simp [hk, ROR_size, EPS_size, ACT_size, RSL_size, Ep.pub_len]) (by simp [go_sem]) rfl (fun w11 M12 => ?_)
              dsimp only [List.set] at M12
              dsimp only [wpT]
              try simp only [Act.put, List.setIfInBounds_toArray, List.set_cons_succ, List.set_cons_zero]
              go_upto_region 16 with fail
              refine wp_region_lin (.op 0 (.op 1 (.op 2 (.op 3 (.op 4 (.op 5 .done)))))) (by rfl) ?_
              refine wpT_valp 58 (v := .pointer (some ⟨gb, 0, none⟩)) rfl rfl rfl (by go_simp) ?_
              refine wpT_valp 59 (v := .pointer (some ⟨b1, 1, none⟩)) rfl rfl rfl (by go_simp) ?_
              refine wpT_valp 60 (v := .int .i64 m) rfl rfl rfl (by have c0 := act_c1 (M12.row (b := b1) (c := ACT q m) (by simp)); go_simp) ?_
              refine wpT_ro (t' := m) (n' := nn) 61 M12 [(b6, ROR k (.slice (some ⟨grn, 0, none⟩) nn crn) m), (grn, currn), (b1, ACT q m)] [(gr, curr), (gm, ROR k (.slice (some ⟨grn, 0, none⟩) nn crn) m), (w.heap.size, cs U8 k)] rfl rfl R rfl rfl rfl (by go_simp) (restart_v (ro_at (b := gb) (t := t) M12 (A := [(b6, ROR k (.slice (some ⟨grn, 0, none⟩) nn crn) m), (grn, currn), (b1, ACT q m)]) (C := [(gr, curr), (gm, ROR k (.slice (some ⟨grn, 0, none⟩) nn crn) m), (w.heap.size, cs U8 k)]) rfl R hn hgb hk (by omega)) HT3.out M12.end_ H9.out m _ rfl (by omega) (by omega) a HA.out (by omega) HLN.out) HNL.out (fun gn cn cun wgn Rn Mgn => ?_)
              try simp only [Act.put, List.setIfInBounds_toArray, List.set_cons_succ, List.set_cons_zero]
              refine wpT_valp 62 (v := .int .i64 0) rfl rfl rfl (by go_simp) ?_
              refine wpT_valp 63 (v := .bool false) rfl rfl rfl (by go_simp) ?_
              dsimp only [wpT]
              try simp only [Act.put, List.setIfInBounds_toArray, List.set_cons_succ, List.set_cons_zero]
              go_upto_region 22 with fail
              refine wp_region_lin (.op 0 (.op 1 (.op 2 (.op 3 .done)))) (by rfl) ?_
              refine wpT_valp 78 (v := .pointer (some ⟨gb, 0, none⟩)) rfl rfl rfl (by go_simp) ?_
              refine wpT_ld0 79 Tryd.underlying49 rfl inf_rrt (gm) (ROR k (.slice (some ⟨grn, 0, none⟩) nn crn) m) rfl rfl rfl (by go_simp) (Mgn.row (b := gm) (c := ROR k (.slice (some ⟨grn, 0, none⟩) nn crn) m) (by simp)) (by simp [hk, ROR_size, EPS_size, ACT_size, RSL_size, Ep.pub_len]) rfl ?_
              refine wpT_callv 80 Mgn (v := .bool true) rfl rfl rfl (by go_simp) (equal_c wgn w.heap.size gb k Ln m m _ grn nn crn (ro_at (b := gb) (t := m) Mgn (A := []) (C := [(b6, ROR k (.slice (some ⟨grn, 0, none⟩) nn crn) m), (grn, currn), (b1, ACT q m), (gr, curr), (gm, ROR k (.slice (some ⟨grn, 0, none⟩) nn crn) m), (w.heap.size, cs U8 k)]) rfl Rn HNL.out hgb hk (by omega)) (Qn.ow Mgn (by simp)).sv HNL.out (by omega) HMA.out (KX.out _ Mgn.end_)) (fun w13 M14 => ?_)
              refine wpT_valp 81 (v := .bool false) rfl rfl rfl (by go_simp) ?_
              dsimp only [wpT]
              try simp only [Act.put, List.setIfInBounds_toArray, List.set_cons_succ, List.set_cons_zero]
              go_wp2_with fail
              go_roundw
              case rel => exact ⟨i + 1, _, _, _, _, _, _, _, Ln, m, by omega, by simp, Rn, Qn, HNL.out, HGD.out, HGI.out, M14.sub (.cons_cons _ (.cons_cons _ (.cons _ (.cons_cons _ (.cons _ (.cons _ (.cons_cons _ (.cons_cons _ .slnil))))))))⟩
              case measure => simp only [intOf]; omega
            · obtain ⟨GN, hgen⟩ := G.tick htm (by omega)
              obtain ⟨Ln, hLn⟩ : ∃ L', Ep.tick L m = L' := ⟨_, rfl⟩
              rw [hLn] at GN hgen
              have HLN := hid hLn
              obtain ⟨sl, hsl, hslg⟩ := GN.la
              have HSL := hid hsl
              obtain ⟨nn, hnn⟩ : ∃ n, Ln.length = n := ⟨_, rfl⟩
              have HSN : Hid (Ln[nn - 1]? = some sl) := hid (by rw [← hnn]; exact hsl)
              have HGI := hid (show Ep.gen0 Ln ≤ i + 1 by omega)
              have hnl2 := GN.len
              rw [hnn] at hnl2
              have HNL := hid hnn
              have HMA := hid GN.mades
              have HGD := hid GN
              clear ha hLn hlate GN hnn G hga hgen hsl
              go_upto_region 12 with fail
              refine wp_region_lin (.op 0 (.op 1 (.op 2 (.op 3 (.op 4 (.op 5 .done)))))) (by rfl) ?_
              refine wpT_valp 42 (v := .slice (some ⟨ga, oa, none⟩) n0 ca) rfl rfl rfl (by go_simp) ?_
              refine wpT_valp 43 (v := .int .i64 i) rfl rfl rfl (by go_simp) ?_
              refine wpT_valp 44 (v := .pointer (some ⟨ga, oa + i * 2, none⟩)) rfl rfl rfl (by go_simp) ?_
              refine wpT_ldy 45 (.pointer (some ⟨ga, oa + i * 2, none⟩)) (.agg (ACT q m)) rfl rfl rfl (by go_simp) (HEA.out _ M.end_) rfl ?_
              try simp only [Act.put, List.setIfInBounds_toArray, List.set_cons_succ, List.set_cons_zero]
              refine wpT_new (z := .agg (ACT 0 0)) 10 M (by kernel_rfl) (by decide) rfl rfl rfl rfl (fun b1 w2 M3 => ?_)
              try dsimp only [Value.cells] at M3
              refine wpT_st0 M3 0 (ACT q m) inf_act rfl rfl rfl rfl (by go_simp) (by go_simp) (by simp [hk, ROR_size, EPS_size, ACT_size, RSL_size, Ep.pub_len]) (by simp [hk, ROR_size, EPS_size, ACT_size, RSL_size, Ep.pub_len]) (by simp [go_sem]) rfl (fun w4 M5 => ?_)
              dsimp only [List.set] at M5
              dsimp only [wpT]
              try simp only [Act.put, List.setIfInBounds_toArray, List.set_cons_succ, List.set_cons_zero]
              go_upto_region 13 with fail
              refine wp_region_lin (.op 0 (.op 1 (.op 2 (.op 3 .done)))) (by rfl) ?_
              refine wpT_valp 46 (v := .pointer (some ⟨b1, 0, none⟩)) rfl rfl rfl (by go_simp) ?_
              refine wpT_valp 47 (v := .int .u8 q) rfl rfl rfl (by have c0 := act_c0 (M5.row (b := b1) (c := ACT q m) (by simp)); go_simp) ?_
              refine wpT_valp 48 (v := .int .u8 rq) rfl rfl rfl (by have h := HRQ1.out; have h2 := HRQ2.out; go_simp) ?_
              refine wpT_valp 49 (v := .bool false) rfl rfl rfl (by go_simp) ?_
              dsimp only [wpT]
              try simp only [Act.put, List.setIfInBounds_toArray, List.set_cons_succ, List.set_cons_zero]
              go_upto_region 18 with fail
              refine wp_region_lin (.op 0 (.op 1 (.op 2 (.op 3 (.op 4 (.op 5 (.op 6 (.op 7 (.op 8 (.op 9 .done)))))))))) (by rfl) ?_
              refine wpT_ld0 65 Tryd.underlying49 rfl inf_rrt (gm) (ROR k (.slice (some ⟨gr, 0, none⟩) n cr) t) rfl rfl rfl (by go_simp) (M5.row (b := gm) (c := ROR k (.slice (some ⟨gr, 0, none⟩) n cr) t) (by simp)) (by simp [hk, ROR_size, EPS_size, ACT_size, RSL_size, Ep.pub_len]) rfl ?_
              refine wpT_valp 66 (v := .pointer (some ⟨b1, 1, none⟩)) rfl rfl rfl (by go_simp) ?_
              refine wpT_valp 67 (v := .int .i64 m) rfl rfl rfl (by have c0 := act_c1 (M5.row (b := b1) (c := ACT q m) (by simp)); go_simp) ?_
              refine wpT_rro (F := fun v => .tuple #[.agg (ROR k v m), .int .i64 sl.gen]) 68 M5 rfl rfl rfl (by go_simp) (rtick_c w4 k gr n cr L t (Q.ow M5 (by simp)).sv HN0.out a HA.out (by omega) m (by omega) HMO.out hk (by omega) (by omega) HLN.out HNL.out (by omega) sl HSN.out) (by omega) (fun grn crn currn wgrn Qn Mgrn => ?_)
              try simp only [Act.put, List.setIfInBounds_toArray, List.set_cons_succ, List.set_cons_zero]
              refine wpT_valp 64 (v := .tuple #[.agg (ROR k (.slice (some ⟨grn, 0, none⟩) nn crn) m), .int .i64 sl.gen]) rfl rfl rfl (by go_simp) ?_
              refine wpT_valp 69 (v := .agg (ROR k (.slice (some ⟨grn, 0, none⟩) nn crn) m)) rfl rfl rfl (by go_simp) ?_
              refine wpT_valp 70 (v := .int .i64 sl.gen) rfl rfl rfl (by go_simp) ?_
              refine wpT_new (z := .agg (ROR (zs 32) (.slice none 0 0) 0)) 13 Mgrn (by kernel_rfl) (by decide) rfl rfl rfl rfl (fun b6 w7 M8 => ?_)
              try dsimp only [Value.cells] at M8
              refine wpT_st0 M8 0 (ROR k (.slice (some ⟨grn, 0, none⟩) nn crn) m) inf_rrt rfl rfl rfl rfl (by go_simp) (by go_simp) (by simp [hk, ROR_size, EPS_size, ACT_size, RSL_size, Ep.pub_len]) (by simp [hk, ROR_size, EPS_size, ACT_size, RSL_size, Ep.pub_len]) (by simp [go_sem]) rfl (fun w9 M10 => ?_)
              dsimp only [List.set] at M10
              try simp only [Act.put, List.setIfInBounds_toArray, List.set_cons_succ, List.set_cons_zero]
              refine wpT_valp 14 (v := .int .i64 sl.gen) rfl rfl rfl (by go_simp) ?_
              dsimp only [wpT]
              try simp only [Act.put, List.setIfInBounds_toArray, List.set_cons_succ, List.set_cons_zero]
              go_upto_region 19 with fail
              refine wp_region_lin (.op 0 (.op 1 .done)) (by rfl) ?_
              refine wpT_ld0 71 Tryd.underlying49 rfl inf_rrt (b6) (ROR k (.slice (some ⟨grn, 0, none⟩) nn crn) m) rfl rfl rfl (by go_simp) (M10.row (b := b6) (c := ROR k (.slice (some ⟨grn, 0, none⟩) nn crn) m) (by simp)) (by simp [hk, ROR_size, EPS_size, ACT_size, RSL_size, Ep.pub_len]) rfl ?_
              refine wpT_st0 M10 6 (ROR k (.slice (some ⟨grn, 0, none⟩) nn crn) m) inf_rrt rfl rfl rfl rfl (by go_simp) (by go_simp) (by simp [hk, ROR_size, EPS_size, ACT_size, RSL_size, Ep.pub_len]) (by simp [hk, ROR_size, EPS_size, ACT_size, RSL_size, Ep.pub_len]) (by simp [go_sem]) rfl (fun w11 M12 => ?_)
              dsimp only [List.set] at M12
              dsimp only [wpT]
              try simp only [Act.put, List.setIfInBounds_toArray, List.set_cons_succ, List.set_cons_zero]
              go_upto_region 20 with fail
              refine wp_region_lin (.op 0 (.op 1 (.op 2 (.op 3 (.op 4 (.op 5 .done)))))) (by rfl) ?_
              refine wpT_valp 72 (v := .pointer (some ⟨gb, 0, none⟩)) rfl rfl rfl (by go_simp) ?_
              refine wpT_valp 73 (v := .pointer (some ⟨b1, 1, none⟩)) rfl rfl rfl (by go_simp) ?_
              refine wpT_valp 74 (v := .int .i64 m) rfl rfl rfl (by have c0 := act_c1 (M12.row (b := b1) (c := ACT q m) (by simp)); go_simp) ?_
              refine wpT_ro (t' := m) (n' := nn) 75 M12 [(b6, ROR k (.slice (some ⟨grn, 0, none⟩) nn crn) m), (grn, currn), (b1, ACT q m)] [(gr, curr), (gm, ROR k (.slice (some ⟨grn, 0, none⟩) nn crn) m), (w.heap.size, cs U8 k)] rfl rfl R rfl rfl rfl (by go_simp) (tick_v (ro_at (b := gb) (t := t) M12 (A := [(b6, ROR k (.slice (some ⟨grn, 0, none⟩) nn crn) m), (grn, currn), (b1, ACT q m)]) (C := [(gr, curr), (gm, ROR k (.slice (some ⟨grn, 0, none⟩) nn crn) m), (w.heap.size, cs U8 k)]) rfl R hn hgb hk (by omega)) HT3.out M12.end_ H9.out m _ rfl (by omega) (by omega) a HA.out (by omega) (by omega) HLN.out sl HSL.out _ rfl) HNL.out (fun gn cn cun wgn Rn Mgn => ?_)
              try simp only [Act.put, List.setIfInBounds_toArray, List.set_cons_succ, List.set_cons_zero]
              refine wpT_valp 76 (v := .int .i64 sl.gen) rfl rfl rfl (by go_simp) ?_
              refine wpT_valp 77 (v := .bool false) rfl rfl rfl (by go_simp) ?_
              dsimp only [wpT]
              try simp only [Act.put, List.setIfInBounds_toArray, List.set_cons_succ, List.set_cons_zero]
              go_upto_region 22 with fail
              refine wp_region_lin (.op 0 (.op 1 (.op 2 (.op 3 .done)))) (by rfl) ?_
              refine wpT_valp 78 (v := .pointer (some ⟨gb, 0, none⟩)) rfl rfl rfl (by go_simp) ?_
              refine wpT_ld0 79 Tryd.underlying49 rfl inf_rrt (gm) (ROR k (.slice (some ⟨grn, 0, none⟩) nn crn) m) rfl rfl rfl (by go_simp) (Mgn.row (b := gm) (c := ROR k (.slice (some ⟨grn, 0, none⟩) nn crn) m) (by simp)) (by simp [hk, ROR_size, EPS_size, ACT_size, RSL_size, Ep.pub_len]) rfl ?_
              refine wpT_callv 80 Mgn (v := .bool true) rfl rfl rfl (by go_simp) (equal_c wgn w.heap.size gb k Ln m m _ grn nn crn (ro_at (b := gb) (t := m) Mgn (A := []) (C := [(b6, ROR k (.slice (some ⟨grn, 0, none⟩) nn crn) m), (grn, currn), (b1, ACT q m), (gr, curr), (gm, ROR k (.slice (some ⟨grn, 0, none⟩) nn crn) m), (w.heap.size, cs U8 k)]) rfl Rn HNL.out hgb hk (by omega)) (Qn.ow Mgn (by simp)).sv HNL.out (by omega) HMA.out (KX.out _ Mgn.end_)) (fun w13 M14 => ?_)
              refine wpT_valp 81 (v := .bool false) rfl rfl rfl (by go_simp) ?_
              dsimp only [wpT]
              try simp only [Act.put, List.setIfInBounds_toArray, List.set_cons_succ, List.set_cons_zero]
              go_wp2_with fail
              go_roundw
              case rel => exact ⟨i + 1, _, _, _, _, _, _, _, Ln, m, by omega, by simp, Rn, Qn, HNL.out, HGD.out, HGI.out, M14.sub (.cons_cons _ (.cons_cons _ (.cons _ (.cons_cons _ (.cons _ (.cons _ (.cons_cons _ (.cons_cons _ .slnil))))))))⟩
              case measure => simp only [intOf]; omega
          · have HNO := hid hlate
            have HGD := hid G
            have HGI := hid (show Ep.gen0 L ≤ i + 1 by omega)
            clear ha hlate G hga hma
            by_cases hkind : rq = 1
            · skip
              go_upto_region 12 with fail
              refine wp_region_lin (.op 0 (.op 1 (.op 2 (.op 3 (.op 4 (.op 5 .done)))))) (by rfl) ?_
              refine wpT_valp 42 (v := .slice (some ⟨ga, oa, none⟩) n0 ca) rfl rfl rfl (by go_simp) ?_
              refine wpT_valp 43 (v := .int .i64 i) rfl rfl rfl (by go_simp) ?_
              refine wpT_valp 44 (v := .pointer (some ⟨ga, oa + i * 2, none⟩)) rfl rfl rfl (by go_simp) ?_
              refine wpT_ldy 45 (.pointer (some ⟨ga, oa + i * 2, none⟩)) (.agg (ACT q e)) rfl rfl rfl (by go_simp) (HEA.out _ M.end_) rfl ?_
              try simp only [Act.put, List.setIfInBounds_toArray, List.set_cons_succ, List.set_cons_zero]
              refine wpT_new (z := .agg (ACT 0 0)) 10 M (by kernel_rfl) (by decide) rfl rfl rfl rfl (fun b1 w2 M3 => ?_)
              try dsimp only [Value.cells] at M3
              refine wpT_st0 M3 0 (ACT q e) inf_act rfl rfl rfl rfl (by go_simp) (by go_simp) (by simp [hk, ROR_size, EPS_size, ACT_size, RSL_size, Ep.pub_len]) (by simp [hk, ROR_size, EPS_size, ACT_size, RSL_size, Ep.pub_len]) (by simp [go_sem]) rfl (fun w4 M5 => ?_)
              dsimp only [List.set] at M5
              dsimp only [wpT]
              try simp only [Act.put, List.setIfInBounds_toArray, List.set_cons_succ, List.set_cons_zero]
              go_upto_region 13 with fail
              refine wp_region_lin (.op 0 (.op 1 (.op 2 (.op 3 .done)))) (by rfl) ?_
              refine wpT_valp 46 (v := .pointer (some ⟨b1, 0, none⟩)) rfl rfl rfl (by go_simp) ?_
              refine wpT_valp 47 (v := .int .u8 q) rfl rfl rfl (by have c0 := act_c0 (M5.row (b := b1) (c := ACT q e) (by simp)); go_simp) ?_
              refine wpT_valp 48 (v := .int .u8 rq) rfl rfl rfl (by have h := HRQ1.out; have h2 := HRQ2.out; go_simp) ?_
              refine wpT_valp 49 (v := .bool true) rfl rfl rfl (by go_simp) ?_
              dsimp only [wpT]
              try simp only [Act.put, List.setIfInBounds_toArray, List.set_cons_succ, List.set_cons_zero]
              go_upto_region 14 with fail
              refine wp_region_lin (.op 0 (.op 1 (.op 2 (.op 3 (.op 4 (.op 5 (.op 6 (.op 7 (.op 8 (.op 9 .done)))))))))) (by rfl) ?_
              refine wpT_ld0 51 Tryd.underlying49 rfl inf_rrt (gm) (ROR k (.slice (some ⟨gr, 0, none⟩) n cr) t) rfl rfl rfl (by go_simp) (M5.row (b := gm) (c := ROR k (.slice (some ⟨gr, 0, none⟩) n cr) t) (by simp)) (by simp [hk, ROR_size, EPS_size, ACT_size, RSL_size, Ep.pub_len]) rfl ?_
              refine wpT_valp 52 (v := .pointer (some ⟨b1, 1, none⟩)) rfl rfl rfl (by go_simp) ?_
              refine wpT_valp 53 (v := .int .i64 e) rfl rfl rfl (by have c0 := act_c1 (M5.row (b := b1) (c := ACT q e) (by simp)); go_simp) ?_
              refine wpT_callv 54 M5 (v := .tuple #[.agg (ROR k (.slice (some ⟨gr, 0, none⟩) n cr) t), .int .i64 2]) rfl rfl rfl (by go_simp) (rrestart_old w4 k gr n cr t e hk HNO.out) (fun w6 M7 => ?_)
              try simp only [Act.put, List.setIfInBounds_toArray, List.set_cons_succ, List.set_cons_zero]
              refine wpT_valp 50 (v := .tuple #[.agg (ROR k (.slice (some ⟨gr, 0, none⟩) n cr) t), .int .i64 2]) rfl rfl rfl (by go_simp) ?_
              refine wpT_valp 55 (v := .agg (ROR k (.slice (some ⟨gr, 0, none⟩) n cr) t)) rfl rfl rfl (by go_simp) ?_
              refine wpT_valp 56 (v := .int .i64 2) rfl rfl rfl (by go_simp) ?_
              refine wpT_new (z := .agg (ROR (zs 32) (.slice none 0 0) 0)) 11 M7 (by kernel_rfl) (by decide) rfl rfl rfl rfl (fun b8 w9 M10 => ?_)
              try dsimp only [Value.cells] at M10
              refine wpT_st0 M10 0 (ROR k (.slice (some ⟨gr, 0, none⟩) n cr) t) inf_rrt rfl rfl rfl rfl (by go_simp) (by go_simp) (by simp [hk, ROR_size, EPS_size, ACT_size, RSL_size, Ep.pub_len]) (by simp [hk, ROR_size, EPS_size, ACT_size, RSL_size, Ep.pub_len]) (by simp [go_sem]) rfl (fun w11 M12 => ?_)
              dsimp only [List.set] at M12
              try simp only [Act.put, List.setIfInBounds_toArray, List.set_cons_succ, List.set_cons_zero]
              refine wpT_valp 12 (v := .int .i64 2) rfl rfl rfl (by go_simp) ?_
              dsimp only [wpT]
              try simp only [Act.put, List.setIfInBounds_toArray, List.set_cons_succ, List.set_cons_zero]
              go_upto_region 15 with fail
              refine wp_region_lin (.op 0 (.op 1 .done)) (by rfl) ?_
              refine wpT_ld0 57 Tryd.underlying49 rfl inf_rrt (b8) (ROR k (.slice (some ⟨gr, 0, none⟩) n cr) t) rfl rfl rfl (by go_simp) (M12.row (b := b8) (c := ROR k (.slice (some ⟨gr, 0, none⟩) n cr) t) (by simp)) (by simp [hk, ROR_size, EPS_size, ACT_size, RSL_size, Ep.pub_len]) rfl ?_
              refine wpT_st0 M12 5 (ROR k (.slice (some ⟨gr, 0, none⟩) n cr) t) inf_rrt rfl rfl rfl rfl (by go_simp) (by go_simp) (by simp [hk, ROR_size, EPS_size, ACT_size, RSL_size, Ep.pub_len]) (by simp [hk, ROR_size, EPS_size, ACT_size, RSL_size, Ep.pub_len]) (by simp [go_sem]) rfl (fun w13 M14 => ?_)
              dsimp only [List.set] at M14
              dsimp only [wpT]
              try simp only [Act.put, List.setIfInBounds_toArray, List.set_cons_succ, List.set_cons_zero]
              go_upto_region 16 with fail
              refine wp_region_lin (.op 0 (.op 1 (.op 2 (.op 3 (.op 4 (.op 5 .done)))))) (by rfl) ?_
              refine wpT_valp 58 (v := .pointer (some ⟨gb, 0, none⟩)) rfl rfl rfl (by go_simp) ?_
              refine wpT_valp 59 (v := .pointer (some ⟨b1, 1, none⟩)) rfl rfl rfl (by go_simp) ?_
              refine wpT_valp 60 (v := .int .i64 e) rfl rfl rfl (by have c0 := act_c1 (M14.row (b := b1) (c := ACT q e) (by simp)); go_simp) ?_
              refine wpT_callv 61 M14 (v := .int .i64 2) rfl rfl rfl (by go_simp) (restart_old w13 _ gb k L t _ (ro_at (b := gb) (t := t) M14 (A := [(b8, ROR k (.slice (some ⟨gr, 0, none⟩) n cr) t), (b1, ACT q e)]) (C := [(gr, curr), (gm, ROR k (.slice (some ⟨gr, 0, none⟩) n cr) t), (w.heap.size, cs U8 k)]) rfl R hn hgb hk (by omega)) e HNO.out) (fun w15 M16 => ?_)
              try simp only [Act.put, List.setIfInBounds_toArray, List.set_cons_succ, List.set_cons_zero]
              refine wpT_valp 62 (v := .int .i64 2) rfl rfl rfl (by go_simp) ?_
              refine wpT_valp 63 (v := .bool false) rfl rfl rfl (by go_simp) ?_
              dsimp only [wpT]
              try simp only [Act.put, List.setIfInBounds_toArray, List.set_cons_succ, List.set_cons_zero]
              go_upto_region 22 with fail
              refine wp_region_lin (.op 0 (.op 1 (.op 2 (.op 3 .done)))) (by rfl) ?_
              refine wpT_valp 78 (v := .pointer (some ⟨gb, 0, none⟩)) rfl rfl rfl (by go_simp) ?_
              refine wpT_ld0 79 Tryd.underlying49 rfl inf_rrt (gm) (ROR k (.slice (some ⟨gr, 0, none⟩) n cr) t) rfl rfl rfl (by go_simp) (M16.row (b := gm) (c := ROR k (.slice (some ⟨gr, 0, none⟩) n cr) t) (by simp)) (by simp [hk, ROR_size, EPS_size, ACT_size, RSL_size, Ep.pub_len]) rfl ?_
              refine wpT_callv 80 M16 (v := .bool true) rfl rfl rfl (by go_simp) (equal_c w15 w.heap.size gb k L t t _ gr n cr (ro_at (b := gb) (t := t) M16 (A := [(b8, ROR k (.slice (some ⟨gr, 0, none⟩) n cr) t), (b1, ACT q e)]) (C := [(gr, curr), (gm, ROR k (.slice (some ⟨gr, 0, none⟩) n cr) t), (w.heap.size, cs U8 k)]) rfl R hn hgb hk (by omega)) (Q.ow M16 (by simp)).sv HNL.out (by omega) HMA.out (KX.out _ M16.end_)) (fun w17 M18 => ?_)
              refine wpT_valp 81 (v := .bool false) rfl rfl rfl (by go_simp) ?_
              dsimp only [wpT]
              try simp only [Act.put, List.setIfInBounds_toArray, List.set_cons_succ, List.set_cons_zero]
              go_wp2_with fail
              go_roundw
              case rel => exact ⟨i + 1, _, _, _, _, _, _, _, L, t, by omega, by simp, R, Q, HNL.out, HGD.out, HGI.out, M18.sub (.cons _ (.cons _ (.cons_cons _ (.cons_cons _ (.cons_cons _ (.cons_cons _ (.cons_cons _ .slnil)))))))⟩
              case measure => simp only [intOf]; omega
            · skip
              go_upto_region 12 with fail
              refine wp_region_lin (.op 0 (.op 1 (.op 2 (.op 3 (.op 4 (.op 5 .done)))))) (by rfl) ?_
              refine wpT_valp 42 (v := .slice (some ⟨ga, oa, none⟩) n0 ca) rfl rfl rfl (by go_simp) ?_
              refine wpT_valp 43 (v := .int .i64 i) rfl rfl rfl (by go_simp) ?_
              refine wpT_valp 44 (v := .pointer (some ⟨ga, oa + i * 2, none⟩)) rfl rfl rfl (by go_simp) ?_
              refine wpT_ldy 45 (.pointer (some ⟨ga, oa + i * 2, none⟩)) (.agg (ACT q e)) rfl rfl rfl (by go_simp) (HEA.out _ M.end_) rfl ?_
              try simp only [Act.put, List.setIfInBounds_toArray, List.set_cons_succ, List.set_cons_zero]
              refine wpT_new (z := .agg (ACT 0 0)) 10 M (by kernel_rfl) (by decide) rfl rfl rfl rfl (fun b1 w2 M3 => ?_)
              try dsimp only [Value.cells] at M3
              refine wpT_st0 M3 0 (ACT q e) inf_act rfl rfl rfl rfl (by go_simp) (by go_simp) (by simp [hk, ROR_size, EPS_size, ACT_size, RSL_size, Ep.pub_len]) (by simp [hk, ROR_size, EPS_size, ACT_size, RSL_size, Ep.pub_len]) (by simp [go_sem]) rfl (fun w4 M5 => ?_)
              dsimp only [List.set] at M5
              dsimp only [wpT]
              try simp only [Act.put, List.setIfInBounds_toArray, List.set_cons_succ, List.set_cons_zero]
              go_upto_region 13 with fail
              refine wp_region_lin (.op 0 (.op 1 (.op 2 (.op 3 .done)))) (by rfl) ?_
              refine wpT_valp 46 (v := .pointer (some ⟨b1, 0, none⟩)) rfl rfl rfl (by go_simp) ?_
              refine wpT_valp 47 (v := .int .u8 q) rfl rfl rfl (by have c0 := act_c0 (M5.row (b := b1) (c := ACT q e) (by simp)); go_simp) ?_
              refine wpT_valp 48 (v := .int .u8 rq) rfl rfl rfl (by have h := HRQ1.out; have h2 := HRQ2.out; go_simp) ?_
              refine wpT_valp 49 (v := .bool false) rfl rfl rfl (by go_simp) ?_
              dsimp only [wpT]
              try simp only [Act.put, List.setIfInBounds_toArray, List.set_cons_succ, List.set_cons_zero]
              go_upto_region 18 with fail
              refine wp_region_lin (.op 0 (.op 1 (.op 2 (.op 3 (.op 4 (.op 5 (.op 6 (.op 7 (.op 8 (.op 9 .done)))))))))) (by rfl) ?_
              refine wpT_ld0 65 Tryd.underlying49 rfl inf_rrt (gm) (ROR k (.slice (some ⟨gr, 0, none⟩) n cr) t) rfl rfl rfl (by go_simp) (M5.row (b := gm) (c := ROR k (.slice (some ⟨gr, 0, none⟩) n cr) t) (by simp)) (by simp [hk, ROR_size, EPS_size, ACT_size, RSL_size, Ep.pub_len]) rfl ?_
              refine wpT_valp 66 (v := .pointer (some ⟨b1, 1, none⟩)) rfl rfl rfl (by go_simp) ?_
              refine wpT_valp 67 (v := .int .i64 e) rfl rfl rfl (by have c0 := act_c1 (M5.row (b := b1) (c := ACT q e) (by simp)); go_simp) ?_
              refine wpT_callv 68 M5 (v := .tuple #[.agg (ROR k (.slice (some ⟨gr, 0, none⟩) n cr) t), .int .i64 0]) rfl rfl rfl (by go_simp) (rtick_old w4 k gr n cr t e hk HNO.out) (fun w6 M7 => ?_)
              try simp only [Act.put, List.setIfInBounds_toArray, List.set_cons_succ, List.set_cons_zero]
              refine wpT_valp 64 (v := .tuple #[.agg (ROR k (.slice (some ⟨gr, 0, none⟩) n cr) t), .int .i64 0]) rfl rfl rfl (by go_simp) ?_
              refine wpT_valp 69 (v := .agg (ROR k (.slice (some ⟨gr, 0, none⟩) n cr) t)) rfl rfl rfl (by go_simp) ?_
              refine wpT_valp 70 (v := .int .i64 0) rfl rfl rfl (by go_simp) ?_
              refine wpT_new (z := .agg (ROR (zs 32) (.slice none 0 0) 0)) 13 M7 (by kernel_rfl) (by decide) rfl rfl rfl rfl (fun b8 w9 M10 => ?_)
              try dsimp only [Value.cells] at M10
              refine wpT_st0 M10 0 (ROR k (.slice (some ⟨gr, 0, none⟩) n cr) t) inf_rrt rfl rfl rfl rfl (by go_simp) (by go_simp) (by simp [hk, ROR_size, EPS_size, ACT_size, RSL_size, Ep.pub_len]) (by simp [hk, ROR_size, EPS_size, ACT_size, RSL_size, Ep.pub_len]) (by simp [go_sem]) rfl (fun w11 M12 => ?_)
              dsimp only [List.set] at M12
              try simp only [Act.put, List.setIfInBounds_toArray, List.set_cons_succ, List.set_cons_zero]
              refine wpT_valp 14 (v := .int .i64 0) rfl rfl rfl (by go_simp) ?_
              dsimp only [wpT]
              try simp only [Act.put, List.setIfInBounds_toArray, List.set_cons_succ, List.set_cons_zero]
              go_upto_region 19 with fail
              refine wp_region_lin (.op 0 (.op 1 .done)) (by rfl) ?_
              refine wpT_ld0 71 Tryd.underlying49 rfl inf_rrt (b8) (ROR k (.slice (some ⟨gr, 0, none⟩) n cr) t) rfl rfl rfl (by go_simp) (M12.row (b := b8) (c := ROR k (.slice (some ⟨gr, 0, none⟩) n cr) t) (by simp)) (by simp [hk, ROR_size, EPS_size, ACT_size, RSL_size, Ep.pub_len]) rfl ?_
              refine wpT_st0 M12 5 (ROR k (.slice (some ⟨gr, 0, none⟩) n cr) t) inf_rrt rfl rfl rfl rfl (by go_simp) (by go_simp) (by simp [hk, ROR_size, EPS_size, ACT_size, RSL_size, Ep.pub_len]) (by simp [hk, ROR_size, EPS_size, ACT_size, RSL_size, Ep.pub_len]) (by simp [go_sem]) rfl (fun w13 M14 => ?_)
              dsimp only [List.set] at M14
              dsimp only [wpT]
              try simp only [Act.put, List.setIfInBounds_toArray, List.set_cons_succ, List.set_cons_zero]
              go_upto_region 20 with fail
              refine wp_region_lin (.op 0 (.op 1 (.op 2 (.op 3 (.op 4 (.op 5 .done)))))) (by rfl) ?_
              refine wpT_valp 72 (v := .pointer (some ⟨gb, 0, none⟩)) rfl rfl rfl (by go_simp) ?_
              refine wpT_valp 73 (v := .pointer (some ⟨b1, 1, none⟩)) rfl rfl rfl (by go_simp) ?_
              refine wpT_valp 74 (v := .int .i64 e) rfl rfl rfl (by have c0 := act_c1 (M14.row (b := b1) (c := ACT q e) (by simp)); go_simp) ?_
              refine wpT_callv 75 M14 (v := .int .i64 0) rfl rfl rfl (by go_simp) (tick_old w13 _ gb k L t _ (ro_at (b := gb) (t := t) M14 (A := [(b8, ROR k (.slice (some ⟨gr, 0, none⟩) n cr) t), (b1, ACT q e)]) (C := [(gr, curr), (gm, ROR k (.slice (some ⟨gr, 0, none⟩) n cr) t), (w.heap.size, cs U8 k)]) rfl R hn hgb hk (by omega)) e HNO.out) (fun w15 M16 => ?_)
              try simp only [Act.put, List.setIfInBounds_toArray, List.set_cons_succ, List.set_cons_zero]
              refine wpT_valp 76 (v := .int .i64 0) rfl rfl rfl (by go_simp) ?_
              refine wpT_valp 77 (v := .bool false) rfl rfl rfl (by go_simp) ?_
              dsimp only [wpT]
              try simp only [Act.put, List.setIfInBounds_toArray, List.set_cons_succ, List.set_cons_zero]
              go_upto_region 22 with fail
              refine wp_region_lin (.op 0 (.op 1 (.op 2 (.op 3 .done)))) (by rfl) ?_
              refine wpT_valp 78 (v := .pointer (some ⟨gb, 0, none⟩)) rfl rfl rfl (by go_simp) ?_
              refine wpT_ld0 79 Tryd.underlying49 rfl inf_rrt (gm) (ROR k (.slice (some ⟨gr, 0, none⟩) n cr) t) rfl rfl rfl (by go_simp) (M16.row (b := gm) (c := ROR k (.slice (some ⟨gr, 0, none⟩) n cr) t) (by simp)) (by simp [hk, ROR_size, EPS_size, ACT_size, RSL_size, Ep.pub_len]) rfl ?_
              refine wpT_callv 80 M16 (v := .bool true) rfl rfl rfl (by go_simp) (equal_c w15 w.heap.size gb k L t t _ gr n cr (ro_at (b := gb) (t := t) M16 (A := [(b8, ROR k (.slice (some ⟨gr, 0, none⟩) n cr) t), (b1, ACT q e)]) (C := [(gr, curr), (gm, ROR k (.slice (some ⟨gr, 0, none⟩) n cr) t), (w.heap.size, cs U8 k)]) rfl R hn hgb hk (by omega)) (Q.ow M16 (by simp)).sv HNL.out (by omega) HMA.out (KX.out _ M16.end_)) (fun w17 M18 => ?_)
              refine wpT_valp 81 (v := .bool false) rfl rfl rfl (by go_simp) ?_
              dsimp only [wpT]
              try simp only [Act.put, List.setIfInBounds_toArray, List.set_cons_succ, List.set_cons_zero]
              go_wp2_with fail
              go_roundw
              case rel => exact ⟨i + 1, _, _, _, _, _, _, _, L, t, by omega, by simp, R, Q, HNL.out, HGD.out, HGI.out, M18.sub (.cons _ (.cons _ (.cons_cons _ (.cons_cons _ (.cons_cons _ (.cons_cons _ (.cons_cons _ .slnil)))))))⟩
              case measure => simp only [intOf]; omega
theorem EpochActs_v (w : World) (k : List (BitVec 8)) (x0 : Int) (va : Value) {len : Nat} (acts : List (Int × Int)) (hT : KT w ∧ 0 < w.heap.size) (hk : k.length = 32) (hn : acts.length = len) (hv : SV w va len (fl eA acts)) (har : ∀ p ∈ acts, 0 ≤ p.1 ∧ p.1 < 256) :
    Calls Tryd.prog 6 #[.agg (cs U8 k), .int .i64 x0, va] w fun e w' => e = .returned (.bool true) ∧ Below w.heap.size w w' := by
  subst hn; exact EpochActs_w w k x0 va acts hT hk hv har
end Go.Proofs.YtgclegdgngldoaaDoor
