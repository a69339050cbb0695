/-
  HMAC in plain Lean, and the walks of package hmac: the padded key; own work.
  Walks of package hmac: the code; own work.
  Walks of reference 04: the bytes of a key, bytes joined, a tag's first half; own work.
  Walks of reference 04: a tag's first half, and the tag; own work.
  Walks of reference 04: the tag; own work.
  Walk of reference 04: as many bytes as one likes; own work.
  Walks of package hmac: bytes alike, a tag's first half, one secret; own work.
  Walk of hmac.Expand; own work.
  Walk of reference 04: a key for a purpose; own work.
  Walk of hmac.Derive; own work.
-/
import Derived.Test.YtgclegdgngldoaaDoorLaw3
import Derived.Laws.CopyOwn
import Derived.Laws.MakeOwn
import Derived.Test.YtgclegdgngldoaaDoorStep
set_option linter.unusedSimpArgs false
set_option linter.unusedVariables false
namespace Go.Proofs.YtgclegdgngldoaaDoor.Sh
def key0 (k : List B) : List B := if 64 < k.length then sum k else k
def padB (k : List B) (x : B) : List B := (k ++ zeros (64 - k.length)).map (· ^^^ x)
def mac (k m : List B) : List B := sum (padB (key0 k) 92 ++ sum (padB (key0 k) 54 ++ m))
def tb (prk info : List B) : Nat → List B
  | 0 => []
  | i + 1 => mac prk (tb prk info i ++ info ++ [BitVec.ofNat 8 (i + 1)])
def okm (prk info : List B) : Nat → List B
  | 0 => []
  | i + 1 => okm prk info i ++ tb prk info (i + 1)
def expand (prk info : List B) (n : Nat) : List B := (okm prk info ((n + 31) / 32)).take n
theorem mac_len (k m : List B) : (mac k m).length = 32 := rfl
theorem key0_len (k : List B) : (key0 k).length ≤ 64 := by
  unfold key0; split
  · show 32 ≤ 64; omega
  · omega
theorem padB_len (k : List B) (x : B) (h : k.length ≤ 64) : (padB k x).length = 64 := by simp [padB, zeros]; omega
end Go.Proofs.YtgclegdgngldoaaDoor.Sh
namespace Go.Proofs.YtgclegdgngldoaaDoor
open Go.RowKit

@[go_sem] theorem make_64 (w : World) : (Instr.makeSlice 89 (.int .i64 64) (.int .i64 64)).run Tryd.prog w = .ok (.slice (some ⟨w.heap.size, 0, none⟩) 64 64) (w.alloc (.cells (cs U8 (zs 64)) 5)) := by
  obtain ⟨i, hi0, hz0, hz1, hz2⟩ := info_parts info_u8
  have h := run_makeSlice (P := Tryd.prog) (w := w) 89 5 i (.int .u8 0) Tryd.underlying89 hi0 hz0 .i64 .i64 64 64 (by decide) (by decide) (by rw [hz1]; decide) (by rw [hz2]; decide) (by decide)
  have e : madeCells (Value.int .u8 0).cells ((64 : Int).toNat * 1) = cs U8 (zs 64) := by kernel_rfl
  rw [hz1, e] at h
  exact h
theorem info_1 : (Tryd.prog.info? 5).map (·.size) = some 1 := by kernel_rfl
/-- copy into a row that may be written -/
theorem wpList_copyb {w : World} {ops : Array Oper} {rest : List Oper} {o : Oper} {a : Act} {Q : Exit → Act → World → Prop} (hgd : o.guard = none) (d s : Operand)
    (ho : o.op = .call { callee := .builtin .copy, args := #[d, s], argTypes := #[89, 89] }) (g dLen dCap : Nat) (u : Value) (D l : List (BitVec 8))
    (hd : a.eval d = .slice (some ⟨g, 0, none⟩) dLen dCap) (hs : a.eval s = u) (hr : w.rowOf g = cs U8 D) (hf : w.free g = true) (hu : BS w u l) (hl : l.length ≤ dLen) (hD : dLen ≤ D.length)
    (B : Nat) (w0 : World) (hb : Below B w0 w) (hB : B ≤ g)
    (h : ∀ w', w'.rowOf g = cs U8 (l ++ D.drop l.length) → w'.free g = true → (∀ T c fz, w.heap[g]? = some (.cells c T fz) → w'.heap[g]? = some (.cells (cs U8 (l ++ D.drop l.length)) T (0, 0))) → Below B w0 w' → wpList Tryd.prog ops Q rest (a.put o.dst (goInt l.length)) w') : wpList Tryd.prog ops Q (o :: rest) a w := by
  obtain ⟨sp, cap, rfl, h1, h2, h3⟩ := hu
  have hg : ∃ t, w.heap[g]? = some (.cells (D.map U8).toArray t (0, 0)) := by
    unfold World.free at hf
    cases hh : w.heap[g]? with
    | none => rw [hh] at hf; cases hf
    | some ob =>
      rw [hh] at hf
      cases ob <;> simp only [Bool.false_eq_true] at hf
      rename_i c t fz
      have : w.rowOf g = c := rowOf_eq hh
      rw [hr] at this
      refine ⟨t, ?_⟩
      rw [← this]
      simp only [beq_iff_eq] at hf
      rw [hf]; rfl
  obtain ⟨t, hg⟩ := hg
  refine wpList_copy_splice hgd d s 89 89 ho 5 Tryd.underlying89 info_1 _ _ dLen dCap l.length cap hd hs g 0 (D.map U8) t hg (l.map U8) (by rw [List.length_map]; exact (Nat.min_eq_left hl).symm) (fun hp => ⟨rfl, ?_⟩) (by simp; omega) (by simp; intro _ _; rfl) B w0 hb hB (fun w' hw hbw => ?_)
  · obtain ⟨b, o', rfl, h4⟩ := h3 (by intro e; rw [e] at hp; simp at hp)
    refine ⟨_, rfl, fun j v hj => ?_⟩
    rw [Addr.add_mid, h4 j (by exact (List.getElem?_eq_some_iff.1 hj).1), hj]
  · have hw' := hw.out
    have e : splice (D.map U8) 0 (l.map U8) = (l ++ D.drop l.length).map U8 := by simp [splice]
    rw [e] at hw'
    have := h w' (rowOf_eq hw') (free_eq hw') (fun T c fz e => by rw [hg] at e; injection e with e; injection e with e1 e2 e3; rw [← e2]; exact hw') hbw
    simpa using this
def xorRow (L : List (BitVec 8)) (x : BitVec 8) (i : Nat) : List (BitVec 8) := (L.take i).map (· ^^^ x) ++ L.drop i
theorem xorRow_len (L : List (BitVec 8)) (x : BitVec 8) (i : Nat) (h : i ≤ L.length) : (xorRow L x i).length = L.length := by simp [xorRow]; omega
theorem xorRow_get (L : List (BitVec 8)) (x : BitVec 8) (i : Nat) (h : i < L.length) : (xorRow L x i).getD i 0 = L.getD i 0 := by
  unfold xorRow
  have e : ((L.take i).map (· ^^^ x)).length = i := by simp; omega
  rw [List.getD_eq_getElem?_getD, List.getElem?_append_right (by omega), e, Nat.sub_self, List.getElem?_drop, Nat.add_zero, List.getD_eq_getElem?_getD]
theorem xorRow_set (L : List (BitVec 8)) (x : BitVec 8) (i : Nat) (h : i < L.length) : (xorRow L x i).set i (L.getD i 0 ^^^ x) = xorRow L x (i + 1) := by
  unfold xorRow
  have e : ((L.take i).map (· ^^^ x)).length = i := by simp; omega
  rw [List.set_append_right _ _ (by omega), e, Nat.sub_self, List.drop_eq_getElem_cons h, List.set_cons_zero, List.take_succ_eq_append_getElem h, List.map_append, List.append_assoc, List.getD_eq_getElem?_getD, List.getElem?_eq_getElem h]
  rfl
theorem xorRow_zero (L : List (BitVec 8)) (x : BitVec 8) : xorRow L x 0 = L := by simp [xorRow]
theorem xorRow_all (L : List (BitVec 8)) (x : BitVec 8) (n : Nat) (h : L.length = n) : xorRow L x n = L.map (· ^^^ x) := by
  subst h; simp [xorRow]
attribute [local irreducible] xorRow
theorem ob_of_heap {w : World} {g n : Nat} {base : Nat} {L : List (BitVec 8)} (hh : w.heap[g]? = some (.cells (cs U8 L) 5 (0, 0))) (hn : L.length = n) (hb : base ≤ g) (hm : n ≤ maxLen) : OB w base (.slice (some ⟨g, 0, none⟩) n n) L := by
  subst hn
  refine ⟨by simp, .inr ⟨g, L.length, cs U8 L, rfl, hb, hh, Nat.le_refl _, hm, by simp, ?_⟩⟩
  rw [Nat.mul_one]
  exact List.take_of_length_le (by simp)
set_option maxRecDepth 100000 in
set_option maxHeartbeats 1000000 in
theorem pad_any (w : World) (v : Value) (l : List (BitVec 8)) (x : BitVec 8) (hv : BS w v l) (hn : l.length ≤ 64) :
    Calls Tryd.prog 88 #[v, U8 x] w fun e w' => ∃ u, e = .returned u ∧ OB w' w.heap.size u (Sh.padB l x) ∧ Below w.heap.size w w' := by
  obtain ⟨n, hnl⟩ : ∃ n, n = l.length := ⟨_, rfl⟩
  obtain ⟨av, cv, rfl, hcv⟩ := hv.shape' n hnl.symm
  have HL := hid hnl
  rw [← hnl] at hn
  clear hnl
  go_enter Tryd.func88, Tryd.ntmps88
  have hv1 : BS (w.alloc (.cells (cs U8 (zs 64)) 5)) (.slice av n cv) l := SV.alloc hv _
  go_wp2_with (refine wpList_copyb rfl (.tmp 8) (.tmp 9) rfl w.heap.size 64 64 _ (zs 64) l rfl rfl (by simp [go_sem]) (by simp [go_sem]) hv1 (by rw [← HL.out]; exact hn) (by simp [zs]) w.heap.size w ((Below.refl _ _).alloc (Nat.le_refl _) _) (Nat.le_refl _) ?_; intro w1 hr1 hf1 ht1 hb1)
  obtain ⟨L, hL⟩ : ∃ L, L = l ++ Sh.zeros (64 - l.length) := ⟨_, rfl⟩
  have hLl : L.length = 64 := by rw [hL]; have := HL.out; simp [Sh.zeros]; omega
  have hdr : List.drop l.length (zs 64 : List (BitVec 8)) = Sh.zeros (64 - l.length) := by unfold zs Sh.zeros; rw [List.drop_replicate]
  have ho1 : OB w1 w.heap.size (.slice (some ⟨w.heap.size, 0, none⟩) 64 64) L := by
    refine ob_of_heap ?_ hLl (Nat.le_refl _) (by unfold maxLen; decide)
    rw [hL, ← hdr]
    exact ht1 _ _ _ (heap_new' _)
  have HP := hid hL
  clear hL hr1 hf1 ht1 hdr hv hv1
  go_loopw [6, 13] (fun _ t wr => ∃ i : Nat, i ≤ 64 ∧ t = .int .i64 i ∧ OB wr w.heap.size (.slice (some ⟨w.heap.size, 0, none⟩) 64 64) (xorRow L x i) ∧ Below w.heap.size w wr) (fun _ t _ => 64 - (intOf t).toNat)
  case atStart => exact ⟨0, by omega, rfl, by rw [xorRow_zero]; exact ho1, hb1⟩
  case round =>
    clear ho1 hb1
    obtain ⟨i, hi, rfl, hov, hbw⟩ := hrel
    have hxl : (xorRow L x i).length = 64 := (xorRow_len L x i (by omega)).trans hLl
    by_cases hlt : i < 64
    · obtain ⟨e1, e2, e3⟩ := hov.set hxl i hlt ((xorRow L x i).getD i 0 ^^^ x)
      obtain ⟨gv, ov, c', hgv, hcv', hcl⟩ := hov.bs.open (by intro e; rw [e] at hxl; cases hxl)
      rw [hxl] at hgv hcl
      cases hgv
      have k1 := hcl i hlt
      rw [Nat.zero_add] at k1
      have hff := free_frozen e1 i
      have q0 : (0 : Int) ≤ i := by omega
      have q1 : (i : Int) < 64 := by omega
      obtain ⟨y, hy⟩ : ∃ y, y = (xorRow L x i).getD i 0 := ⟨_, rfl⟩
      rw [← hy] at k1 e3
      have HY := hid hy
      have HX := hid hxl
      clear hcl hxl hov hy
      go_wp2_with fail
      go_roundw
      case rel =>
        refine ⟨i + 1, by omega, by go_num, ?_, below_setRow' hbw (Nat.le_refl _) _⟩
        rw [← xorRow_set L x i (by omega), ← xorRow_get L x i (by omega), ← HY.out]
        exact e3
      case measure => simp [intOf]; omega
    · have : i = 64 := by omega
      subst this
      have HX := hid hxl
      clear hxl
      go_wp2_with fail
      go_ret
      refine ⟨_, rfl, ?_, hbw⟩
      have hx : xorRow L x 64 = Sh.padB l x := by rw [xorRow_all L x 64 hLl, HP.out]; rfl
      rw [hx] at hov
      exact hov
end Go.Proofs.YtgclegdgngldoaaDoor
set_option linter.unusedSimpArgs false
set_option linter.unusedVariables false
namespace Go.Proofs.YtgclegdgngldoaaDoor
open Go.RowKit

theorem BS.row {w : World} {g n : Nat} {L : List (BitVec 8)} (hr : w.rowOf g = cs U8 L) (hn : L.length = n) (hm : n ≤ maxLen) : BS w (.slice (some ⟨g, 0, none⟩) n n) L := by
  subst hn
  refine ⟨_, L.length, rfl, Nat.le_refl _, hm, fun _ => ⟨g, 0, rfl, fun i hi => ?_⟩⟩
  rw [cell_rowOf, hr]; simp [cs]
theorem ob_ne {g c n m b : Nat} (h : g ≠ b) : (Value.slice (some ⟨g, c, none⟩) n m).ownBlock ≠ some b := by
  intro e; cases c <;> simp [Value.ownBlock] at e <;> exact h e
theorem pad_lit (c : Int) (x : BitVec 8) (hc : U8 x = .int .u8 c) (w : World) (v : Value) (l : List (BitVec 8)) (hv : BS w v l) (hn : l.length ≤ 64) :
    Calls Tryd.prog 88 #[v, .int .u8 c] w fun e w' => ∃ u, e = .returned u ∧ OB w' w.heap.size u (Sh.padB l x) ∧ Below w.heap.size w w' := by rw [← hc]; exact pad_any w v l x hv hn
theorem pad_sep {w w' : World} {b : Nat} {u : Value} {l : List (BitVec 8)} (h : OB w' w.heap.size u l) (hb : b < w.heap.size) : l = [] ∨ u.ownBlock ≠ some b := .inr (fun e => by have := (h.lt b e).1; omega)
theorem sumfnD {w : World} {v : Value} {l D : List (BitVec 8)} (hD : D = Sh.sum l) (hK : KT w) (hk0 : 0 < w.heap.size) (hv : BS w v l) (hn : l.length ≤ 1073741824) :
    Calls Tryd.prog 85 #[v] w fun e w' => e = .returned (.agg (cs U8 D)) ∧ Below w.heap.size w w' := by
  rw [hD]; exact sum_any w v l hK hk0 hv hn
set_option maxRecDepth 100000 in
set_option maxHeartbeats 4000000 in
theorem mac_any (w : World) (v0 v1 : Value) (k m : List (BitVec 8)) (hT : KT w) (hk0 : 0 < w.heap.size) (h0 : BS w v0 k) (h1 : BS w v1 m) (hkl : k.length ≤ 1073741000) (hml : m.length ≤ 1073741000) :
    Calls Tryd.prog 64 #[v0, v1] w fun e w' => e = .returned (.agg (cs U8 (Sh.mac k m))) ∧ Below w.heap.size w w' := by
  obtain ⟨n, hn⟩ : ∃ n, n = k.length := ⟨_, rfl⟩
  obtain ⟨av, cv, rfl, hcv⟩ := h0.shape' n hn.symm
  have HN := hid hn
  obtain ⟨D, hD⟩ : ∃ D, D = Sh.sum (Sh.padB (Sh.key0 k) 54 ++ m) := ⟨_, rfl⟩
  have hDl : D.length = 32 := by rw [hD]; rfl
  obtain ⟨E, hE⟩ : ∃ E, E = Sh.sum (Sh.padB (Sh.key0 k) 92 ++ D) := ⟨_, rfl⟩
  have hEl : E.length = 32 := by rw [hE]; rfl
  have hmac : Sh.mac k m = E := by rw [hE, hD]; rfl
  have hp1 : (Sh.padB (Sh.key0 k) 54).length = 64 := Sh.padB_len _ _ (Sh.key0_len k)
  have hp2 : (Sh.padB (Sh.key0 k) 92).length = 64 := Sh.padB_len _ _ (Sh.key0_len k)
  have hkk := Sh.key0_len k
  rw [hmac]
  have HD := hid hD; have HE := hid hE; have HP1 := hid hp1; have HP2 := hid hp2; have HKK := hid hkk
  have ha : Below w.heap.size w (w.alloc (.cells (cs U8 (zs 32)) 23)) := (Below.refl _ _).alloc (Nat.le_refl _) _
  have hra : (w.alloc (.cells (cs U8 (zs 32)) 23)).rowOf w.heap.size = cs U8 (zs 32) := rowOf_alloc_at _ _ _ rfl
  have hfa : (w.alloc (.cells (cs U8 (zs 32)) 23)).free w.heap.size = true := free_alloc_at _ _ _ rfl
  have hsa : (w.alloc (.cells (cs U8 (zs 32)) 23)).heap.size = w.heap.size + 1 := by simp
  obtain ⟨wa, hwa⟩ : ∃ wa, wa = w.alloc (.cells (cs U8 (zs 32)) 23) := ⟨_, rfl⟩
  rw [← hwa] at ha hra hfa hsa
  have HWA := hid hwa
  clear hD hE hp1 hp2 hmac hn hwa hkk
  have HT : Hid (∀ wx, Below (w.heap.size + 1) wa wx → KT wx) := hid fun wx h => (hT.below ha hk0).below h (by omega)
  have HV1 : Hid (∀ wx, Below (w.heap.size + 1) wa wx → BS wx v1 m) := hid fun wx h => SV.below (SV.below h1 ha) (by rw [hsa]; exact h)
  have HS1 : Hid (∀ b, w.heap.size ≤ b → m = [] ∨ v1.ownBlock ≠ some b) := hid fun b hb => by
    by_cases hl : m = []
    · exact .inl hl
    · exact .inr (fun e => by have := SV.lt h1 b e (by simpa using hl); omega)
  have hva : BS wa (.slice av n cv) k := SV.below h0 ha
  by_cases h64 : (64 : Int) < n
  · obtain ⟨K, hK⟩ : ∃ K, K = Sh.sum k := ⟨_, rfl⟩
    have hKl : K.length = 32 := by rw [hK]; rfl
    have hkey : Sh.key0 k = K := by rw [hK]; unfold Sh.key0; rw [if_pos (by rw [← HN.out]; omega)]
    have HK := hid hK
    clear hK
    go_enter Tryd.func64, Tryd.ntmps64
    go_wp2_with fail
    rw [← HWA.out]
    with_reducible refine (sumfnD (D := K) HK.out (HT.out wa (Below.refl _ _)) (by omega) hva (by rw [← HN.out] at hkl; rw [← HN.out]; omega)).mono ?_
    rintro e wc ⟨rfl, hbc⟩
    dsimp only
    go_wp2_with fail
    obtain ⟨wb, hwb⟩ : ∃ wb, wb = wc.alloc (.cells (cs U8 K) 23) := ⟨_, rfl⟩
    have hrb : wb.rowOf wc.heap.size = cs U8 K := by rw [hwb]; exact rowOf_alloc_at _ _ _ rfl
    have hbb : Below wc.heap.size wc wb := by rw [hwb]; exact (Below.refl _ _).alloc (Nat.le_refl _) _
    rw [← hwb]
    clear hwb
    have hvk : BS wb (Value.slice (some ⟨wc.heap.size, 0, none⟩) 32 32) (Sh.key0 k) := by rw [hkey]; exact BS.row hrb hKl (by unfold maxLen; decide)
    have hzc := hbc.size
    have hBb : Below (w.heap.size + 1) wa wb := by rw [← hsa]; exact hbc.trans (hbb.mono hzc)
    have hzb : w.heap.size + 1 ≤ wb.heap.size := by have := hbb.size; omega

    -- now at New, in the world wb, the key in vk
    with_reducible refine (newS wb).mono ?_
    rintro e w1 ⟨b, rfl, hb, hs1, hb1⟩
    have hB1 : Below (w.heap.size + 1) wa w1 := hBb.trans (hb1.mono hzb)
    have hz1 := hb1.size
    have hl1 := hs1.lt
    have hvk1 : BS w1 (Value.slice (some ⟨wc.heap.size, 0, none⟩) 32 32) (Sh.key0 k) := hvk.below hb1
    dsimp only
    go_wp2_with fail
    with_reducible refine (pad_lit 54 54 rfl w1 (Value.slice (some ⟨wc.heap.size, 0, none⟩) 32 32) (Sh.key0 k) hvk1 HKK.out).mono ?_
    rintro e w2 ⟨u2, rfl, ho2, hb2⟩
    have hs2 := hs1.below hb2
    have hB2 := hB1.trans (hb2.mono (by omega))
    have hz2 := hb2.size
    dsimp only
    go_wp2_with fail
    with_reducible refine (writeS u2 _ (HT.out w2 hB2) (by omega) hs2 ho2.bs (pad_sep ho2 hl1) (by rw [HP1.out]; simp)).mono ?_
    rintro e w3 ⟨rfl, rv3, hs3, hf3, hg3⟩
    have hB3 := hB2.trans (hs_below hs2 hf3 (by omega : w.heap.size + 1 ≤ b))
    have hz3 := hf3.size
    rw [List.nil_append] at hs3
    dsimp only
    go_wp2_with fail
    with_reducible refine (writeS v1 m (HT.out w3 hB3) (by omega) hs3 (HV1.out w3 hB3) (HS1.out b (by omega)) (by rw [HP1.out]; omega)).mono ?_
    rintro e w4 ⟨rfl, rv4, hs4, hf4, hg4⟩
    have hB4 := hB3.trans (hs_below hs3 hf4 (by omega : w.heap.size + 1 ≤ b))
    have hz4 := hf4.size
    dsimp only
    go_wp2_with fail
    with_reducible refine (sumD HD.out (HT.out w4 hB4) (by omega) hs4 (by rw [List.length_append, HP1.out]; omega)).mono ?_
    rintro e w5 ⟨rfl, hb5⟩
    have hB5 := hB4.trans (hb5.mono (by omega))
    have hz5 := hb5.size
    dsimp only
    go_wp2_with fail
    have hc6 : Below w5.heap.size w5 (w5.alloc (.cells (cs U8 D) 23)) := (Below.refl _ _).alloc (Nat.le_refl _) _
    have hr6 : (w5.alloc (.cells (cs U8 D) 23)).rowOf w5.heap.size = cs U8 D := rowOf_alloc_at _ _ _ rfl
    have hs6 : (w5.alloc (.cells (cs U8 D) 23)).heap.size = w5.heap.size + 1 := by simp
    obtain ⟨w6, hw6⟩ : ∃ w6, w6 = w5.alloc (.cells (cs U8 D) 23) := ⟨_, rfl⟩
    rw [← hw6] at hc6 hr6 hs6
    rw [← hw6]
    clear hw6
    have hB6 := hB5.trans (hc6.mono (by omega))
    with_reducible refine (newS w6).mono ?_
    rintro e w7 ⟨b2, rfl, hb', hs7, hb7⟩
    have hB7 := hB6.trans (hb7.mono (by omega))
    have hz7 := hb7.size
    have hl7 := hs7.lt
    have hvk7 : BS w7 (Value.slice (some ⟨wc.heap.size, 0, none⟩) 32 32) (Sh.key0 k) := by
      have e1 : Below wb.heap.size wb w7 := ((((((hb1.trans (hb2.mono hz1)).trans (hs_below hs2 hf3 hb)).trans (hs_below hs3 hf4 hb)).trans (hb5.mono (by omega))).trans (hc6.mono (by omega))).trans (hb7.mono (by omega)))
      exact hvk.below e1
    dsimp only
    go_wp2_with fail
    with_reducible refine (pad_lit 92 92 rfl w7 (Value.slice (some ⟨wc.heap.size, 0, none⟩) 32 32) (Sh.key0 k) hvk7 HKK.out).mono ?_
    rintro e w8 ⟨u8, rfl, ho8, hb8⟩
    have hs8 := hs7.below hb8
    have hB8 := hB7.trans (hb8.mono (by omega))
    have hz8 := hb8.size
    dsimp only
    go_wp2_with fail
    with_reducible refine (writeS u8 _ (HT.out w8 hB8) (by omega) hs8 ho8.bs (pad_sep ho8 hl7) (by rw [HP2.out]; simp)).mono ?_
    rintro e w9 ⟨rfl, rv9, hs9, hf9, hg9⟩
    have hB9 := hB8.trans (hs_below hs8 hf9 (by omega : w.heap.size + 1 ≤ b2))
    have hz9 := hf9.size
    rw [List.nil_append] at hs9
    have hr9 : w9.rowOf w5.heap.size = cs U8 D := (below_row ((hb7.trans (hb8.mono (by omega))).trans (hs_below hs8 hf9 hb')) (by omega)).trans hr6
    have hbs9 : BS w9 (.slice (some ⟨w5.heap.size, 0, none⟩) 32 32) D := BS.row hr9 hDl (by unfold maxLen; decide)
    dsimp only
    go_wp2_with fail
    with_reducible refine (writeS _ D (HT.out w9 hB9) (by omega) hs9 hbs9 (.inr (ob_ne (by omega))) (by rw [HP2.out, hDl]; decide)).mono ?_
    rintro e w10 ⟨rfl, rv10, hs10, hf10, hg10⟩
    have hB10 := hB9.trans (hs_below hs9 hf10 (by omega : w.heap.size + 1 ≤ b2))
    have hz10 := hf10.size
    dsimp only
    go_wp2_with fail
    with_reducible refine (sumD HE.out (HT.out w10 hB10) (by omega) hs10 (by rw [List.length_append, HP2.out, hDl]; decide)).mono ?_
    rintro e w11 ⟨rfl, hb11⟩
    have hB11 := hB10.trans (hb11.mono (by omega))
    have q1 : w11.rowOf w.heap.size = cs U8 (zs 32) := (below_row hB11 (by omega)).trans hra
    have q2 : w11.free w.heap.size = true := (below_free hB11 (by omega)).trans hfa
    have HB11 := hid hB11
    clear hB11 hra hfa
    dsimp only
    go_wp2_with fail
    refine bodyPost_ret (res_row (b := w.heap.size) rfl Tryd.underlying23 rfl inf_key _ _ rfl ?_) rfl ?_
    · rw [rowOf_setRow_same _ q2]; simp [hEl]
    · rw [rowOf_setRow_same _ q2]
      exact ⟨rfl, below_setRow' (ha.trans (HB11.out.mono (by omega))) (Nat.le_refl _) _⟩
  · have hkey : Sh.key0 k = k := by unfold Sh.key0; rw [if_neg (by rw [← HN.out]; omega)]
    go_enter Tryd.func64, Tryd.ntmps64
    go_wp2_with fail
    rw [← HWA.out]
    obtain ⟨wb, hwb⟩ : ∃ wb, wb = wa := ⟨_, rfl⟩
    have hvk : BS wb (Value.slice av n cv) (Sh.key0 k) := by rw [hwb, hkey]; exact hva
    have hBb : Below (w.heap.size + 1) wa wb := by rw [hwb]; exact Below.refl _ _
    have hzb : w.heap.size + 1 ≤ wb.heap.size := by rw [hwb]; omega
    rw [← hwb]

    -- now at New, in the world wb, the key in vk
    with_reducible refine (newS wb).mono ?_
    rintro e w1 ⟨b, rfl, hb, hs1, hb1⟩
    have hB1 : Below (w.heap.size + 1) wa w1 := hBb.trans (hb1.mono hzb)
    have hz1 := hb1.size
    have hl1 := hs1.lt
    have hvk1 : BS w1 (Value.slice av n cv) (Sh.key0 k) := hvk.below hb1
    dsimp only
    go_wp2_with fail
    with_reducible refine (pad_lit 54 54 rfl w1 (Value.slice av n cv) (Sh.key0 k) hvk1 HKK.out).mono ?_
    rintro e w2 ⟨u2, rfl, ho2, hb2⟩
    have hs2 := hs1.below hb2
    have hB2 := hB1.trans (hb2.mono (by omega))
    have hz2 := hb2.size
    dsimp only
    go_wp2_with fail
    with_reducible refine (writeS u2 _ (HT.out w2 hB2) (by omega) hs2 ho2.bs (pad_sep ho2 hl1) (by rw [HP1.out]; simp)).mono ?_
    rintro e w3 ⟨rfl, rv3, hs3, hf3, hg3⟩
    have hB3 := hB2.trans (hs_below hs2 hf3 (by omega : w.heap.size + 1 ≤ b))
    have hz3 := hf3.size
    rw [List.nil_append] at hs3
    dsimp only
    go_wp2_with fail
    with_reducible refine (writeS v1 m (HT.out w3 hB3) (by omega) hs3 (HV1.out w3 hB3) (HS1.out b (by omega)) (by rw [HP1.out]; omega)).mono ?_
    rintro e w4 ⟨rfl, rv4, hs4, hf4, hg4⟩
    have hB4 := hB3.trans (hs_below hs3 hf4 (by omega : w.heap.size + 1 ≤ b))
    have hz4 := hf4.size
    dsimp only
    go_wp2_with fail
    with_reducible refine (sumD HD.out (HT.out w4 hB4) (by omega) hs4 (by rw [List.length_append, HP1.out]; omega)).mono ?_
    rintro e w5 ⟨rfl, hb5⟩
    have hB5 := hB4.trans (hb5.mono (by omega))
    have hz5 := hb5.size
    dsimp only
    go_wp2_with fail
    have hc6 : Below w5.heap.size w5 (w5.alloc (.cells (cs U8 D) 23)) := (Below.refl _ _).alloc (Nat.le_refl _) _
    have hr6 : (w5.alloc (.cells (cs U8 D) 23)).rowOf w5.heap.size = cs U8 D := rowOf_alloc_at _ _ _ rfl
    have hs6 : (w5.alloc (.cells (cs U8 D) 23)).heap.size = w5.heap.size + 1 := by simp
    obtain ⟨w6, hw6⟩ : ∃ w6, w6 = w5.alloc (.cells (cs U8 D) 23) := ⟨_, rfl⟩
    rw [← hw6] at hc6 hr6 hs6
    rw [← hw6]
    clear hw6
    have hB6 := hB5.trans (hc6.mono (by omega))
    with_reducible refine (newS w6).mono ?_
    rintro e w7 ⟨b2, rfl, hb', hs7, hb7⟩
    have hB7 := hB6.trans (hb7.mono (by omega))
    have hz7 := hb7.size
    have hl7 := hs7.lt
    have hvk7 : BS w7 (Value.slice av n cv) (Sh.key0 k) := by
      have e1 : Below wb.heap.size wb w7 := ((((((hb1.trans (hb2.mono hz1)).trans (hs_below hs2 hf3 hb)).trans (hs_below hs3 hf4 hb)).trans (hb5.mono (by omega))).trans (hc6.mono (by omega))).trans (hb7.mono (by omega)))
      exact hvk.below e1
    dsimp only
    go_wp2_with fail
    with_reducible refine (pad_lit 92 92 rfl w7 (Value.slice av n cv) (Sh.key0 k) hvk7 HKK.out).mono ?_
    rintro e w8 ⟨u8, rfl, ho8, hb8⟩
    have hs8 := hs7.below hb8
    have hB8 := hB7.trans (hb8.mono (by omega))
    have hz8 := hb8.size
    dsimp only
    go_wp2_with fail
    with_reducible refine (writeS u8 _ (HT.out w8 hB8) (by omega) hs8 ho8.bs (pad_sep ho8 hl7) (by rw [HP2.out]; simp)).mono ?_
    rintro e w9 ⟨rfl, rv9, hs9, hf9, hg9⟩
    have hB9 := hB8.trans (hs_below hs8 hf9 (by omega : w.heap.size + 1 ≤ b2))
    have hz9 := hf9.size
    rw [List.nil_append] at hs9
    have hr9 : w9.rowOf w5.heap.size = cs U8 D := (below_row ((hb7.trans (hb8.mono (by omega))).trans (hs_below hs8 hf9 hb')) (by omega)).trans hr6
    have hbs9 : BS w9 (.slice (some ⟨w5.heap.size, 0, none⟩) 32 32) D := BS.row hr9 hDl (by unfold maxLen; decide)
    dsimp only
    go_wp2_with fail
    with_reducible refine (writeS _ D (HT.out w9 hB9) (by omega) hs9 hbs9 (.inr (ob_ne (by omega))) (by rw [HP2.out, hDl]; decide)).mono ?_
    rintro e w10 ⟨rfl, rv10, hs10, hf10, hg10⟩
    have hB10 := hB9.trans (hs_below hs9 hf10 (by omega : w.heap.size + 1 ≤ b2))
    have hz10 := hf10.size
    dsimp only
    go_wp2_with fail
    with_reducible refine (sumD HE.out (HT.out w10 hB10) (by omega) hs10 (by rw [List.length_append, HP2.out, hDl]; decide)).mono ?_
    rintro e w11 ⟨rfl, hb11⟩
    have hB11 := hB10.trans (hb11.mono (by omega))
    have q1 : w11.rowOf w.heap.size = cs U8 (zs 32) := (below_row hB11 (by omega)).trans hra
    have q2 : w11.free w.heap.size = true := (below_free hB11 (by omega)).trans hfa
    have HB11 := hid hB11
    clear hB11 hra hfa
    dsimp only
    go_wp2_with fail
    refine bodyPost_ret (res_row (b := w.heap.size) rfl Tryd.underlying23 rfl inf_key _ _ rfl ?_) rfl ?_
    · rw [rowOf_setRow_same _ q2]; simp [hEl]
    · rw [rowOf_setRow_same _ q2]
      exact ⟨rfl, below_setRow' (ha.trans (HB11.out.mono (by omega))) (Nat.le_refl _) _⟩
end Go.Proofs.YtgclegdgngldoaaDoor
set_option linter.unusedSimpArgs false
set_option linter.unusedVariables false
namespace Go.Proofs.YtgclegdgngldoaaDoor
open Go.RowKit

end Go.Proofs.YtgclegdgngldoaaDoor
set_option linter.unusedSimpArgs false
set_option linter.unusedVariables false
namespace Go.Proofs.YtgclegdgngldoaaDoor
open Go.RowKit

/-- the first i of n bytes are there -/
def fil (l : List (BitVec 8)) (n i : Nat) : List (BitVec 8) := l.take i ++ zs (n - i)
attribute [local irreducible] fil
end Go.Proofs.YtgclegdgngldoaaDoor
set_option linter.unusedSimpArgs false
set_option linter.unusedVariables false
namespace Go.Proofs.YtgclegdgngldoaaDoor
open Go.RowKit

end Go.Proofs.YtgclegdgngldoaaDoor
set_option linter.unusedSimpArgs false
set_option linter.unusedVariables false
namespace Go.Proofs.YtgclegdgngldoaaDoor
open Go.RowKit

end Go.Proofs.YtgclegdgngldoaaDoor
set_option linter.unusedSimpArgs false
set_option linter.unusedVariables false
namespace Go.Proofs.YtgclegdgngldoaaDoor
open Go.RowKit

attribute [go_sem] cs_extract
end Go.Proofs.YtgclegdgngldoaaDoor
set_option linter.unusedSimpArgs false
set_option linter.unusedVariables false
namespace Go.Proofs.YtgclegdgngldoaaDoor
open Go.RowKit

theorem BS.alloc {w : World} {v : Value} {l : List (BitVec 8)} (h : BS w v l) (o : Obj) : BS (w.alloc o) v l := SV.alloc h o
end Go.Proofs.YtgclegdgngldoaaDoor
set_option linter.unusedSimpArgs false
set_option linter.unusedVariables false
namespace Go.Proofs.YtgclegdgngldoaaDoor
open Go.RowKit

def Sh.pig : List (BitVec 8) := [112, 105, 103, 101, 111, 110, 114, 121, 32]
def Sh.derive (k label : List (BitVec 8)) : List (BitVec 8) := Sh.expand k (Sh.pig ++ label) 32
end Go.Proofs.YtgclegdgngldoaaDoor
set_option linter.unusedSimpArgs false
set_option linter.unusedVariables false
namespace Go.Proofs.YtgclegdgngldoaaDoor
open Go.RowKit

end Go.Proofs.YtgclegdgngldoaaDoor
