/-
  HMAC in plain Lean, and the walks of package hmac: the padded key; own work.
-/
import Derived.Test.YtgclegdgngldoaaDoorLaw3d
import Derived.Laws.CopyOwn
import Derived.Laws.MakeOwn
set_option linter.unusedSimpArgs false
set_option linter.unusedVariables false
namespace Go.Proofs.YtgclegdgngldoaaDoor.Sh
def key0 (k : List B) : List B := if 64 < k.length then sum k else k
def padB (k : List B) (x : B) : List B := (k ++ zeros (64 - k.length)).map (· ^^^ x)
def mac (k m : List B) : List B := sum (padB (key0 k) 92 ++ sum (padB (key0 k) 54 ++ m))
def tb (prk info : List B) : Nat → List B
  | 0 => []
  | i + 1 => mac prk (tb prk info i ++ info ++ [BitVec.ofNat 8 (i + 1)])
def okm (prk info : List B) : Nat → List B
  | 0 => []
  | i + 1 => okm prk info i ++ tb prk info (i + 1)
def expand (prk info : List B) (n : Nat) : List B := (okm prk info ((n + 31) / 32)).take n
theorem mac_len (k m : List B) : (mac k m).length = 32 := rfl
theorem key0_len (k : List B) : (key0 k).length ≤ 64 := by
  unfold key0; split
  · show 32 ≤ 64; omega
  · omega
theorem padB_len (k : List B) (x : B) (h : k.length ≤ 64) : (padB k x).length = 64 := by simp [padB, zeros]; omega
end Go.Proofs.YtgclegdgngldoaaDoor.Sh
namespace Go.Proofs.YtgclegdgngldoaaDoor
open Go.RowKit

@[go_sem] theorem make_64 (w : World) : (Instr.makeSlice 89 (.int .i64 64) (.int .i64 64)).run Tryd.prog w = .ok (.slice (some ⟨w.heap.size, 0, none⟩) 64 64) (w.alloc (.cells (cs U8 (zs 64)) 5)) := by
  obtain ⟨i, hi0, hz0, hz1, hz2⟩ := info_parts info_u8
  have h := run_makeSlice (P := Tryd.prog) (w := w) 89 5 i (.int .u8 0) Tryd.underlying89 hi0 hz0 .i64 .i64 64 64 (by decide) (by decide) (by rw [hz1]; decide) (by rw [hz2]; decide) (by decide)
  have e : madeCells (Value.int .u8 0).cells ((64 : Int).toNat * 1) = cs U8 (zs 64) := by kernel_rfl
  rw [hz1, e] at h
  exact h
theorem info_1 : (Tryd.prog.info? 5).map (·.size) = some 1 := by kernel_rfl
/-- copy into a row that may be written -/
theorem wpList_copyb {w : World} {ops : Array Oper} {rest : List Oper} {o : Oper} {a : Act} {Q : Exit → Act → World → Prop} (hgd : o.guard = none) (d s : Operand)
    (ho : o.op = .call { callee := .builtin .copy, args := #[d, s], argTypes := #[89, 89] }) (g dLen dCap : Nat) (u : Value) (D l : List (BitVec 8))
    (hd : a.eval d = .slice (some ⟨g, 0, none⟩) dLen dCap) (hs : a.eval s = u) (hr : w.rowOf g = cs U8 D) (hf : w.free g = true) (hu : BS w u l) (hl : l.length ≤ dLen) (hD : dLen ≤ D.length)
    (B : Nat) (w0 : World) (hb : Below B w0 w) (hB : B ≤ g)
    (h : ∀ w', w'.rowOf g = cs U8 (l ++ D.drop l.length) → w'.free g = true → (∀ T c fz, w.heap[g]? = some (.cells c T fz) → w'.heap[g]? = some (.cells (cs U8 (l ++ D.drop l.length)) T (0, 0))) → Below B w0 w' → wpList Tryd.prog ops Q rest (a.put o.dst (goInt l.length)) w') : wpList Tryd.prog ops Q (o :: rest) a w := by
  obtain ⟨sp, cap, rfl, h1, h2, h3⟩ := hu
  have hg : ∃ t, w.heap[g]? = some (.cells (D.map U8).toArray t (0, 0)) := by
    unfold World.free at hf
    cases hh : w.heap[g]? with
    | none => rw [hh] at hf; cases hf
    | some ob =>
      rw [hh] at hf
      cases ob <;> simp only [Bool.false_eq_true] at hf
      rename_i c t fz
      have : w.rowOf g = c := rowOf_eq hh
      rw [hr] at this
      refine ⟨t, ?_⟩
      rw [← this]
      simp only [beq_iff_eq] at hf
      rw [hf]; rfl
  obtain ⟨t, hg⟩ := hg
  refine wpList_copy_splice hgd d s 89 89 ho 5 Tryd.underlying89 info_1 _ _ dLen dCap l.length cap hd hs g 0 (D.map U8) t hg (l.map U8) (by rw [List.length_map]; exact (Nat.min_eq_left hl).symm) (fun hp => ⟨rfl, ?_⟩) (by simp; omega) (by simp; intro _ _; rfl) B w0 hb hB (fun w' hw hbw => ?_)
  · obtain ⟨b, o', rfl, h4⟩ := h3 (by intro e; rw [e] at hp; simp at hp)
    refine ⟨_, rfl, fun j v hj => ?_⟩
    rw [Addr.add_mid, h4 j (by exact (List.getElem?_eq_some_iff.1 hj).1), hj]
  · have hw' := hw.out
    have e : splice (D.map U8) 0 (l.map U8) = (l ++ D.drop l.length).map U8 := by simp [splice]
    rw [e] at hw'
    have := h w' (rowOf_eq hw') (free_eq hw') (fun T c fz e => by rw [hg] at e; injection e with e; injection e with e1 e2 e3; rw [← e2]; exact hw') hbw
    simpa using this
def xorRow (L : List (BitVec 8)) (x : BitVec 8) (i : Nat) : List (BitVec 8) := (L.take i).map (· ^^^ x) ++ L.drop i
theorem xorRow_len (L : List (BitVec 8)) (x : BitVec 8) (i : Nat) (h : i ≤ L.length) : (xorRow L x i).length = L.length := by simp [xorRow]; omega
theorem xorRow_get (L : List (BitVec 8)) (x : BitVec 8) (i : Nat) (h : i < L.length) : (xorRow L x i).getD i 0 = L.getD i 0 := by
  unfold xorRow
  have e : ((L.take i).map (· ^^^ x)).length = i := by simp; omega
  rw [List.getD_eq_getElem?_getD, List.getElem?_append_right (by omega), e, Nat.sub_self, List.getElem?_drop, Nat.add_zero, List.getD_eq_getElem?_getD]
theorem xorRow_set (L : List (BitVec 8)) (x : BitVec 8) (i : Nat) (h : i < L.length) : (xorRow L x i).set i (L.getD i 0 ^^^ x) = xorRow L x (i + 1) := by
  unfold xorRow
  have e : ((L.take i).map (· ^^^ x)).length = i := by simp; omega
  rw [List.set_append_right _ _ (by omega), e, Nat.sub_self, List.drop_eq_getElem_cons h, List.set_cons_zero, List.take_succ_eq_append_getElem h, List.map_append, List.append_assoc, List.getD_eq_getElem?_getD, List.getElem?_eq_getElem h]
  rfl
theorem xorRow_zero (L : List (BitVec 8)) (x : BitVec 8) : xorRow L x 0 = L := by simp [xorRow]
theorem xorRow_all (L : List (BitVec 8)) (x : BitVec 8) (n : Nat) (h : L.length = n) : xorRow L x n = L.map (· ^^^ x) := by
  subst h; simp [xorRow]
attribute [local irreducible] xorRow
theorem ob_of_heap {w : World} {g n : Nat} {base : Nat} {L : List (BitVec 8)} (hh : w.heap[g]? = some (.cells (cs U8 L) 5 (0, 0))) (hn : L.length = n) (hb : base ≤ g) (hm : n ≤ maxLen) : OB w base (.slice (some ⟨g, 0, none⟩) n n) L := by
  subst hn
  refine ⟨by simp, .inr ⟨g, L.length, cs U8 L, rfl, hb, hh, Nat.le_refl _, hm, by simp, ?_⟩⟩
  rw [Nat.mul_one]
  exact List.take_of_length_le (by simp)
set_option maxRecDepth 100000 in
set_option maxHeartbeats 1000000 in
theorem pad_any (w : World) (v : Value) (l : List (BitVec 8)) (x : BitVec 8) (hv : BS w v l) (hn : l.length ≤ 64) :
    Calls Tryd.prog 88 #[v, U8 x] w fun e w' => ∃ u, e = .returned u ∧ OB w' w.heap.size u (Sh.padB l x) ∧ Below w.heap.size w w' := by
  obtain ⟨n, hnl⟩ : ∃ n, n = l.length := ⟨_, rfl⟩
  obtain ⟨av, cv, rfl, hcv⟩ := hv.shape' n hnl.symm
  have HL := hid hnl
  rw [← hnl] at hn
  clear hnl
  go_enter Tryd.func88, Tryd.ntmps88
  have hv1 : BS (w.alloc (.cells (cs U8 (zs 64)) 5)) (.slice av n cv) l := SV.alloc hv _
  go_wp2_with (refine wpList_copyb rfl (.tmp 8) (.tmp 9) rfl w.heap.size 64 64 _ (zs 64) l rfl rfl (by simp [go_sem]) (by simp [go_sem]) hv1 (by rw [← HL.out]; exact hn) (by simp [zs]) w.heap.size w ((Below.refl _ _).alloc (Nat.le_refl _) _) (Nat.le_refl _) ?_; intro w1 hr1 hf1 ht1 hb1)
  obtain ⟨L, hL⟩ : ∃ L, L = l ++ Sh.zeros (64 - l.length) := ⟨_, rfl⟩
  have hLl : L.length = 64 := by rw [hL]; have := HL.out; simp [Sh.zeros]; omega
  have hdr : List.drop l.length (zs 64 : List (BitVec 8)) = Sh.zeros (64 - l.length) := by unfold zs Sh.zeros; rw [List.drop_replicate]
  have ho1 : OB w1 w.heap.size (.slice (some ⟨w.heap.size, 0, none⟩) 64 64) L := by
    refine ob_of_heap ?_ hLl (Nat.le_refl _) (by unfold maxLen; decide)
    rw [hL, ← hdr]
    exact ht1 _ _ _ (heap_new' _)
  have HP := hid hL
  clear hL hr1 hf1 ht1 hdr hv hv1
  go_loopw [6, 13] (fun _ t wr => ∃ i : Nat, i ≤ 64 ∧ t = .int .i64 i ∧ OB wr w.heap.size (.slice (some ⟨w.heap.size, 0, none⟩) 64 64) (xorRow L x i) ∧ Below w.heap.size w wr) (fun _ t _ => 64 - (intOf t).toNat)
  case atStart => exact ⟨0, by omega, rfl, by rw [xorRow_zero]; exact ho1, hb1⟩
  case round =>
    clear ho1 hb1
    obtain ⟨i, hi, rfl, hov, hbw⟩ := hrel
    have hxl : (xorRow L x i).length = 64 := (xorRow_len L x i (by omega)).trans hLl
    by_cases hlt : i < 64
    · obtain ⟨e1, e2, e3⟩ := hov.set hxl i hlt ((xorRow L x i).getD i 0 ^^^ x)
      obtain ⟨gv, ov, c', hgv, hcv', hcl⟩ := hov.bs.open (by intro e; rw [e] at hxl; cases hxl)
      rw [hxl] at hgv hcl
      cases hgv
      have k1 := hcl i hlt
      rw [Nat.zero_add] at k1
      have hff := free_frozen e1 i
      have q0 : (0 : Int) ≤ i := by omega
      have q1 : (i : Int) < 64 := by omega
      obtain ⟨y, hy⟩ : ∃ y, y = (xorRow L x i).getD i 0 := ⟨_, rfl⟩
      rw [← hy] at k1 e3
      have HY := hid hy
      have HX := hid hxl
      clear hcl hxl hov hy
      go_wp2_with fail
      go_roundw
      case rel =>
        refine ⟨i + 1, by omega, by go_num, ?_, below_setRow' hbw (Nat.le_refl _) _⟩
        rw [← xorRow_set L x i (by omega), ← xorRow_get L x i (by omega), ← HY.out]
        exact e3
      case measure => simp [intOf]; omega
    · have : i = 64 := by omega
      subst this
      have HX := hid hxl
      clear hxl
      go_wp2_with fail
      go_ret
      refine ⟨_, rfl, ?_, hbw⟩
      have hx : xorRow L x 64 = Sh.padB l x := by rw [xorRow_all L x 64 hLl, HP.out]; rfl
      rw [hx] at hov
      exact hov
end Go.Proofs.YtgclegdgngldoaaDoor
