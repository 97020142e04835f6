/- Numerals: strconv.Itoa by the library's contract (the table of numbers is printed for this seat alone), and the reference's own by its walk. -/
import Derived.Shelf.LaysM
import Derived.Shelf.Strconv.Itoa3
import Derived.Lib.SmallJoins
import Derived.Laws.IdiomStrings
import Derived.Laws.Concat
import Derived.OrdersHeld
import Derived.Deep.DeepCutAuto
import Derived.Test.YtjndhgjmnoiegaaDoorKinds
namespace Go.Proofs.YtjndhgjmnoiegaaDoor
open Go.RowKit Go.Shelf
def laysM171_ren : Go.Shelf.Ren := ⟨fun | 171 => 28 | 243 => 29 | 246 => 30 | 283 => 31 | 284 => 32 | 285 => 33 | 286 => 34 | 129 => 36 | 317 => 35 | 318 => 37 | 319 => 38 | 320 => 39 | 337 => 40 | 338 => 41 | n => n, fun | 3 => 3 | 9 => 9 | 2 => 2 | 4 => 4 | 171 => 52 | 0 => 0 | 53 => 53 | 37 => 49 | 5 => 5 | 173 => 56 | 212 => 59 | 51 => 60 | 20 => 20 | 213 => 61 | 46 => 62 | 232 => 65 | 233 => 66 | n => n, fun | 17 => 2 | 18 => 3 | 19 => 4 | n => n⟩
theorem laysM171 : Go.Proofs.LaysM.n171 Tryd.prog laysM171_ren := {
  mixed := by kernel_rfl
  f129 := Tryd.func36.trans (congrArg some (by kernel_rfl))
  f171 := Tryd.func28.trans (congrArg some (by kernel_rfl))
  f243 := Tryd.func29.trans (congrArg some (by kernel_rfl))
  f246 := Tryd.func30.trans (congrArg some (by kernel_rfl))
  f283 := Tryd.func31.trans (congrArg some (by kernel_rfl))
  f284 := Tryd.func32.trans (congrArg some (by kernel_rfl))
  f285 := Tryd.func33.trans (congrArg some (by kernel_rfl))
  f286 := Tryd.func34.trans (congrArg some (by kernel_rfl))
  f317 := Tryd.func35.trans (congrArg some (by kernel_rfl))
  f318 := Tryd.func37.trans (congrArg some (by kernel_rfl))
  f319 := Tryd.func38.trans (congrArg some (by kernel_rfl))
  f320 := Tryd.func39.trans (congrArg some (by kernel_rfl))
  f337 := Tryd.func40.trans (congrArg some (by kernel_rfl))
  f338 := Tryd.func41.trans (congrArg some (by kernel_rfl))
  t0 := Tryd.underlying0
  a0 := Tryd.isAgg0
  z0 := Tryd.sizeOf0
  v0 := Tryd.zeroValue0
  t2 := Tryd.underlying2
  a2 := Tryd.isAgg2
  z2 := Tryd.sizeOf2
  v2 := Tryd.zeroValue2
  t3 := Tryd.underlying3
  a3 := Tryd.isAgg3
  z3 := Tryd.sizeOf3
  v3 := Tryd.zeroValue3
  t4 := Tryd.underlying4
  a4 := Tryd.isAgg4
  z4 := Tryd.sizeOf4
  v4 := Tryd.zeroValue4
  t5 := Tryd.underlying5
  a5 := Tryd.isAgg5
  z5 := Tryd.sizeOf5
  v5 := Tryd.zeroValue5
  t9 := Tryd.underlying9
  a9 := Tryd.isAgg9
  z9 := Tryd.sizeOf9
  v9 := Tryd.zeroValue9
  t20 := Tryd.underlying20
  a20 := Tryd.isAgg20
  z20 := Tryd.sizeOf20
  v20 := Tryd.zeroValue20
  t37 := Tryd.underlying49
  a37 := Tryd.isAgg49
  z37 := Tryd.sizeOf49
  v37 := Tryd.zeroValue49
  t46 := Tryd.underlying62
  a46 := Tryd.isAgg62
  z46 := Tryd.sizeOf62
  v46 := Tryd.zeroValue62
  t51 := Tryd.underlying60
  a51 := Tryd.isAgg60
  z51 := Tryd.sizeOf60
  v51 := Tryd.zeroValue60
  t53 := Tryd.underlying53
  a53 := Tryd.isAgg53
  z53 := Tryd.sizeOf53
  v53 := Tryd.zeroValue53
  t171 := Tryd.underlying52
  a171 := Tryd.isAgg52
  z171 := Tryd.sizeOf52
  v171 := Tryd.zeroValue52
  t173 := Tryd.underlying56
  a173 := Tryd.isAgg56
  z173 := Tryd.sizeOf56
  v173 := Tryd.zeroValue56
  t212 := Tryd.underlying59
  a212 := Tryd.isAgg59
  z212 := Tryd.sizeOf59
  v212 := Tryd.zeroValue59
  t213 := Tryd.underlying61
  a213 := Tryd.isAgg61
  z213 := Tryd.sizeOf61
  t232 := Tryd.underlying65
  a232 := Tryd.isAgg65
  z232 := Tryd.sizeOf65
  v232 := Tryd.zeroValue65
  t233 := Tryd.underlying66
  a233 := Tryd.isAgg66
  z233 := Tryd.sizeOf66
  v233 := Tryd.zeroValue66
  g17 := by kernel_rfl
  g18 := by kernel_rfl
  g19 := by kernel_rfl
  i0 := by kernel_rfl
  i2 := by kernel_rfl
  i3 := by kernel_rfl
  i4 := by kernel_rfl
  i5 := by kernel_rfl
  i9 := by kernel_rfl
  i20 := by kernel_rfl
  i37 := by kernel_rfl
  i46 := by kernel_rfl
  i51 := by kernel_rfl
  i53 := by kernel_rfl
  i171 := by kernel_rfl
  i173 := by kernel_rfl
  i212 := by kernel_rfl
  i232 := by kernel_rfl
  i233 := by kernel_rfl
  m17 := by kernel_rfl
  m18 := by kernel_rfl
  m19 := by kernel_rfl }
/-- The library's table of powers of ten. -/
def Pow (w : World) : Prop := Lib.TabIs Tryd.prog w "internal/strconv.uint64pow10" .u64 Lib.pow10Tab
theorem powName : Tryd.prog.globalNamed "internal/strconv.uint64pow10" = some 2 := by kernel_rfl
theorem Pow.below {w w' : World} (h : Pow w) (hb : Below w.heap.size w w') : Pow w' := Joins.tab_stays powName h hb (Nat.le_refl _)
/-- A number's decimal numeral. -/
def numB (n : Int) : ByteArray := ⟨(Lib.itoa n).toArray⟩
theorem numB_lt {n : Int} (h0 : 0 ≤ n) (h1 : n < 10) : numB n = ⟨[UInt8.ofNat (48 + n).toNat].toArray⟩ := by
  unfold numB Lib.itoa
  rw [if_neg (by omega), Lib.decDigits, dif_pos (by omega), show (48 + n).toNat = 48 + n.toNat by omega]
theorem numB_ge {n : Int} (h : 10 ≤ n) : numB n = numB (n / 10) ++ ⟨[UInt8.ofNat (48 + n % 10).toNat].toArray⟩ := by
  unfold numB Lib.itoa
  rw [if_neg (by omega), if_neg (by omega), Lib.decDigits, dif_neg (by omega), ByteArray.mk_append_mk, show (n / 10).toNat = n.toNat / 10 by omega, show (48 + n % 10).toNat = 48 + n.toNat % 10 by omega]
theorem one_size (x : UInt8) : (ByteArray.mk [x].toArray).size = 1 := rfl
theorem app_size (a b : ByteArray) : (a ++ b).size = a.size + b.size := ByteArray.size_append
theorem numB_size {n : Int} (h0 : 0 ≤ n) (h1 : n < 1000) : (numB n).size ≤ 3 := by
  by_cases h : n < 10
  · rw [numB_lt h0 h, one_size]; omega
  · rw [numB_ge (by omega), app_size, one_size]
    by_cases h2 : n / 10 < 10
    · rw [numB_lt (by omega) h2, one_size]; omega
    · rw [numB_ge (by omega), app_size, one_size, numB_lt (by omega) (by omega), one_size]; omega
theorem below_grow (w : World) (k : Nat) (os : Array Obj) : Below w.heap.size w (Sort.grow (w.drewN k) os) :=
  ⟨rfl, rfl, rfl, by simp [Sort.grow, World.drewN], fun j hj => by simp [Sort.grow, World.drewN, Array.getElem?_append_left hj]⟩
theorem conv_cell (W : World) (b : Nat) (D : Int) (hD : 0 ≤ D ∧ D ≤ 255) (Bq : ByteArray) (hBq : Bq = ⟨[UInt8.ofNat D.toNat].toArray⟩) (h : W.cell? ⟨b, 0, none⟩ = some (.int .u8 D)) :
    (convert 49 9 (.slice (some ⟨b, 0, none⟩) 1 1)).run Tryd.prog W = .ok (.string Bq) W := by
  rw [hBq]
  exact run_convert_bytes_back (P := Tryd.prog) W 49 9 5 ⟨b, 0, none⟩ 1 [UInt8.ofNat D.toNat] Tryd.underlying49 Tryd.underlying5 Tryd.underlying9 (fun j hj => by
    have : j = 0 := by simpa using hj
    subst this
    have e : ((UInt8.ofNat D.toNat).toNat : Int) = D := by
      rw [UInt8.toNat_ofNat']
      omega
    show W.cell? ⟨b, 0 + 0, none⟩ = _
    rw [Nat.zero_add, h]
    show some (Value.int .u8 D) = some (Value.int .u8 ((UInt8.ofNat D.toNat).toNat : Int))
    rw [e])
theorem conv_one (W : World) (D : Int) (hD : 0 ≤ D ∧ D ≤ 255) (Bq : ByteArray) (hBq : Bq = ⟨[UInt8.ofNat D.toNat].toArray⟩) :
    (convert 49 9 (.slice (some ⟨W.heap.size, 0, none⟩) 1 1)).run Tryd.prog (W.alloc (.cells #[.int .u8 D] 5)) = .ok (.string Bq) (W.alloc (.cells #[.int .u8 D] 5)) :=
  conv_cell _ _ D hD Bq hBq ((Blk.new W 5 #[.int .u8 D]).cell 0)
theorem conv_keep {W W' : World} (D : Int) (hD : 0 ≤ D ∧ D ≤ 255) (Bq : ByteArray) (hBq : Bq = ⟨[UInt8.ofNat D.toNat].toArray⟩) (u : Below (W.alloc (.cells #[.int .u8 D] 5)).heap.size (W.alloc (.cells #[.int .u8 D] 5)) W') :
    (convert 49 9 (.slice (some ⟨W.heap.size, 0, none⟩) 1 1)).run Tryd.prog W' = .ok (.string Bq) W' :=
  conv_cell _ _ D hD Bq hBq (((Blk.new W 5 #[.int .u8 D]).below u).cell 0)
theorem Itoa_any (n : Int) (w : World) (h : 0 ≤ n ∧ n ≤ 100000) (hT : Pow w) :
    Calls Tryd.prog 28 #[.int .i64 n] w fun e w' => e = .returned (.string (numB n)) ∧ Below w.heap.size w w' :=
  (Any.strconv_Itoa laysM171 n (by omega) (by omega) w hT).mono fun _ _ ⟨he, k, os, hw⟩ => ⟨he, hw ▸ below_grow w k os⟩
set_option maxHeartbeats 4000000 in
theorem l1Num_one (n : Int) (w : World) (h : 0 ≤ n ∧ n ≤ 9) :
    Calls Tryd.prog 25 #[.int .i64 n] w fun e w' => e = .returned (.string (numB n)) ∧ Below w.heap.size w w' := by
  have HN := Lib.hid (numB_lt h.1 (by omega : n < 10))
  obtain ⟨D, hDe⟩ : ∃ D, D = 48 + n := ⟨_, rfl⟩
  rw [← hDe] at HN
  have hD : 0 ≤ D ∧ D ≤ 255 := by omega
  have t1 : IntKind.i64.wrap (48 + n) = D := by rw [← hDe]; exact IntWalk.i64_in _ (by omega)
  have t2 : IntKind.u8.wrap D = D := IntWalk.u8_in _ (by omega)
  obtain ⟨Bq, hBq⟩ : ∃ B : ByteArray, B = ⟨[UInt8.ofNat D.toNat].toArray⟩ := ⟨_, rfl⟩
  rw [← hBq] at HN
  have kc := conv_one w D hD Bq hBq
  have hlt : n < 10 := by omega
  clear hBq hDe hD h
  go_enter Tryd.func25, Tryd.ntmps25
  go_wp2
  go_ret
  exact ⟨by rw [HN.out]; rfl, (Below.refl _ _).alloc (Nat.le_refl _) _⟩
set_option maxHeartbeats 4000000 in
theorem l1Num_step (n : Int) (w : World) (h : 10 ≤ n ∧ n ≤ 999) (hrec : ∀ W : World, Calls Tryd.prog 25 #[.int .i64 (n / 10)] W fun e w' => e = .returned (.string (numB (n / 10))) ∧ Below W.heap.size W w') :
    Calls Tryd.prog 25 #[.int .i64 n] w fun e w' => e = .returned (.string (numB n)) ∧ Below w.heap.size w w' := by
  have HN := Lib.hid (numB_ge h.1)
  have hs := numB_size (n := n / 10) (by omega) (by omega)
  obtain ⟨D, hDe⟩ : ∃ D, D = 48 + n % 10 := ⟨_, rfl⟩
  rw [← hDe] at HN
  have hD : 0 ≤ D ∧ D ≤ 255 := by omega
  obtain ⟨m, hm⟩ : ∃ m, m = n % 10 := ⟨_, rfl⟩
  obtain ⟨k, hk⟩ : ∃ k, k = n / 10 := ⟨_, rfl⟩
  rw [← hk] at HN hs hrec
  have t1 : IntKind.i64.wrap (48 + m) = D := by rw [hm, ← hDe]; exact IntWalk.i64_in _ (by omega)
  have t2 : IntKind.u8.wrap D = D := IntWalk.u8_in _ (by omega)
  have t3 : n.tdiv 10 = k := by rw [hk]; exact Int.tdiv_eq_ediv_of_nonneg (by omega)
  have t4 : n.tmod 10 = m := by rw [hm]; exact Int.tmod_eq_emod_of_nonneg (by omega)
  have t5 : IntKind.i64.wrap k = k := IntWalk.i64_in _ (by omega)
  have t6 : IntKind.i64.wrap m = m := IntWalk.i64_in _ (by omega)
  obtain ⟨Bq, hBq⟩ : ∃ B : ByteArray, B = ⟨[UInt8.ofNat D.toNat].toArray⟩ := ⟨_, rfl⟩
  rw [← hBq] at HN
  have hb1 : Bq.size = 1 := by rw [hBq, one_size]
  have kc := fun W : World => conv_one W D hD Bq hBq
  have kcd := conv_cell ((w.alloc (.cells #[.int .u8 D] 5)).drew) w.heap.size D hD Bq hBq ((Blk.drew (Blk.new w 5 #[.int .u8 D])).cell 0)
  have hlt : ¬ n < 10 := by omega
  generalize numB k = A at *
  have hsz : ¬ (A.size + Bq.size > 9223372036854775807) := by omega
  have HBq := Lib.hid hBq
  clear hDe hm hk h hs hb1 hBq
  go_enter Tryd.func25, Tryd.ntmps25
  go_upto_region 3 with fail
  refine wp_region_noPanic ?_
  refine wp_region_held_drew (S := (fun _ => True)) (by kernel_rfl) ?hS1 (fun hHeld => ?go1)
  case hS1 => trivial
  refine tk (i := 0) (oi := ⟨some 10, _, _, _, _, _⟩) (v := ?v0_2) hHeld rfl ?y0_2 ?r0_2
  case y0_2 => (intro w _; first | (go_simp; done) | (go_simp; with_reducible rfl) | (with_reducible rfl))
  (try simp only [pt_])
  refine tk (i := 1) (oi := ⟨some 11, _, _, _, _, _⟩) (v := ?v1_3) hHeld rfl ?y1_3 ?r1_3
  case y1_3 => (intro w _; first | (go_simp; done) | (go_simp; with_reducible rfl) | (with_reducible rfl))
  (try simp only [pt_])
  refine tk (i := 3) (oi := ⟨some 13, _, _, _, _, _⟩) (v := ?v3_4) hHeld rfl ?y3_4 ?r3_4
  case y3_4 => (intro w _; first | (go_simp; done) | (go_simp; with_reducible rfl) | (with_reducible rfl))
  (try simp only [pt_])
  refine tk (i := 4) (oi := ⟨some 14, _, _, _, _, _⟩) (v := ?v4_5) hHeld rfl ?y4_5 ?r4_5
  case y4_5 => (intro w _; first | (go_simp; done) | (go_simp; with_reducible rfl) | (with_reducible rfl))
  (try simp only [pt_])
  refine tk (i := 5) (oi := ⟨some 15, _, _, _, _, _⟩) (v := ?v5_6) hHeld rfl ?y5_6 ?r5_6
  case y5_6 => (intro w _; first | (go_simp; done) | (go_simp; with_reducible rfl) | (with_reducible rfl))
  (try simp only [pt_])
  refine tk (i := 6) (oi := ⟨some 16, _, _, _, _, _⟩) (v := ?v6_7) hHeld rfl ?y6_7 ?r6_7
  case y6_7 => (intro w _; first | (go_simp; done) | (go_simp; with_reducible rfl) | (with_reducible rfl))
  (try simp only [pt_])
  refine wpAnyH_ready (rs := [2, 7]) (by kernel_rfl) (by simp) ?_
  refine AllReadyH.cons (o := { dst := some 12, op := _, type := _, pos := _, after := _, guard := _ }) rfl (fun K hK => ?_) ?_
  go_simp
  refine (hrec _).mono ?_
  rintro e w2 ⟨rfl, u2⟩
  (try have kc2 : (convert 49 9 (.slice (some ⟨w.heap.size, 0, none⟩) 1 1)).run Tryd.prog w2 = .ok (.string Bq) w2 := conv_keep (W := w.drew) D hD Bq HBq.out u2)
  refine hK.out _ _ ?_ (fun hHeld => ?_)
  · trivial
  clear hK K
  (try simp only [pt_])
  refine wpAnyH_ready (rs := [7]) (by kernel_rfl) (by simp) ?_
  refine AllReadyH.cons (o := { dst := some 17, op := _, type := _, pos := _, after := _, guard := _ }) rfl (fun K hK => ?_) ?_
  go_simp
  refine hK.out _ _ ?_ (fun hHeld => ?_)
  · trivial
  clear hK K
  (try simp only [pt_])
  refine wpAnyH_ready (rs := [8]) (by kernel_rfl) (by simp) ?_
  refine AllReadyH.cons (o := { dst := some 18, op := _, type := _, pos := _, after := _, guard := _ }) rfl (fun K hK => ?_) ?_
  go_simp
  refine hK.out _ _ ?_ (fun hHeld => ?_)
  · trivial
  clear hK K
  (try simp only [pt_])
  refine tk (i := 9) (oi := ⟨some 19, _, _, _, _, _⟩) (v := ?v9_8) hHeld rfl ?y9_8 ?r9_8
  case y9_8 => (intro w _; first | (go_simp; done) | (go_simp; with_reducible rfl) | (with_reducible rfl))
  (try simp only [pt_])
  refine tk (i := 10) (oi := ⟨some 2, _, _, _, _, _⟩) (v := ?v10_9) hHeld rfl ?y10_9 ?r10_9
  case y10_9 => (intro w _; first | (go_simp; done) | (go_simp; with_reducible rfl) | (with_reducible rfl))
  (try simp only [pt_])
  refine wpAnyH_done (by kernel_rfl) ?_ _
  refine NoPanic.normal ?_
  rotate_left 1
  exact AllReadyH.nil
  exact AllReadyH.nil
  refine AllReadyH.cons (o := { dst := some 17, op := _, type := _, pos := _, after := _, guard := _ }) rfl (fun K hK => ?_) ?_
  go_simp
  refine hK.out _ _ ?_ (fun hHeld => ?_)
  · trivial
  clear hK K
  (try simp only [pt_])
  refine wpAnyH_ready (rs := [2, 8]) (by kernel_rfl) (by simp) ?_
  refine AllReadyH.cons (o := { dst := some 12, op := _, type := _, pos := _, after := _, guard := _ }) rfl (fun K hK => ?_) ?_
  go_simp
  refine (hrec _).mono ?_
  rintro e w2 ⟨rfl, u2⟩
  (try have kc2 : (convert 49 9 (.slice (some ⟨w.heap.size, 0, none⟩) 1 1)).run Tryd.prog w2 = .ok (.string Bq) w2 := conv_keep (W := w.drew) D hD Bq HBq.out u2)
  refine hK.out _ _ ?_ (fun hHeld => ?_)
  · trivial
  clear hK K
  (try simp only [pt_])
  refine wpAnyH_ready (rs := [8]) (by kernel_rfl) (by simp) ?_
  refine AllReadyH.cons (o := { dst := some 18, op := _, type := _, pos := _, after := _, guard := _ }) rfl (fun K hK => ?_) ?_
  go_simp
  refine hK.out _ _ ?_ (fun hHeld => ?_)
  · trivial
  clear hK K
  (try simp only [pt_])
  refine tk (i := 9) (oi := ⟨some 19, _, _, _, _, _⟩) (v := ?v9_10) hHeld rfl ?y9_10 ?r9_10
  case y9_10 => (intro w _; first | (go_simp; done) | (go_simp; with_reducible rfl) | (with_reducible rfl))
  (try simp only [pt_])
  refine tk (i := 10) (oi := ⟨some 2, _, _, _, _, _⟩) (v := ?v10_11) hHeld rfl ?y10_11 ?r10_11
  case y10_11 => (intro w _; first | (go_simp; done) | (go_simp; with_reducible rfl) | (with_reducible rfl))
  (try simp only [pt_])
  refine wpAnyH_done (by kernel_rfl) ?_ _
  refine NoPanic.normal ?_
  rotate_left 1
  exact AllReadyH.nil
  refine AllReadyH.cons (o := { dst := some 18, op := _, type := _, pos := _, after := _, guard := _ }) rfl (fun K hK => ?_) ?_
  go_simp
  refine hK.out _ _ ?_ (fun hHeld => ?_)
  · trivial
  clear hK K
  (try simp only [pt_])
  refine wpAnyH_ready (rs := [2]) (by kernel_rfl) (by simp) ?_
  refine AllReadyH.cons (o := { dst := some 12, op := _, type := _, pos := _, after := _, guard := _ }) rfl (fun K hK => ?_) ?_
  go_simp
  refine (hrec _).mono ?_
  rintro e w2 ⟨rfl, u2⟩
  (try have kc2 : (convert 49 9 (.slice (some ⟨w.heap.size, 0, none⟩) 1 1)).run Tryd.prog w2 = .ok (.string Bq) w2 := conv_keep (W := w.drew) D hD Bq HBq.out u2)
  refine hK.out _ _ ?_ (fun hHeld => ?_)
  · trivial
  clear hK K
  (try simp only [pt_])
  refine tk (i := 9) (oi := ⟨some 19, _, _, _, _, _⟩) (v := ?v9_12) hHeld rfl ?y9_12 ?r9_12
  case y9_12 => (intro w _; first | (go_simp; done) | (go_simp; with_reducible rfl) | (with_reducible rfl))
  (try simp only [pt_])
  refine tk (i := 10) (oi := ⟨some 2, _, _, _, _, _⟩) (v := ?v10_13) hHeld rfl ?y10_13 ?r10_13
  case y10_13 => (intro w _; first | (go_simp; done) | (go_simp; with_reducible rfl) | (with_reducible rfl))
  (try simp only [pt_])
  refine wpAnyH_done (by kernel_rfl) ?_ _
  refine NoPanic.normal ?_
  rotate_left 1
  exact AllReadyH.nil
  exact AllReadyH.nil
  exact AllReadyH.nil
  all_goals
    go_wp2
    go_ret
    refine ⟨by rw [HN.out]; rfl, ?_⟩
    first
      | exact ((Below.refl _ _).drew.trans (u2.mono (Nat.le_refl _))).alloc u2.size _
      | exact ((Below.refl _ _).drew.alloc (Nat.le_refl _) _).trans (u2.mono (by simp))
theorem l1Num_any (n : Int) (w : World) (h : 0 ≤ n ∧ n ≤ 999) :
    Calls Tryd.prog 25 #[.int .i64 n] w fun e w' => e = .returned (.string (numB n)) ∧ Below w.heap.size w w' := by
  have h2 : ∀ (m : Int) (W : World), 0 ≤ m → m ≤ 99 → Calls Tryd.prog 25 #[.int .i64 m] W fun e w' => e = .returned (.string (numB m)) ∧ Below W.heap.size W w' := fun m W h0 h1 => by
    by_cases hm : m ≤ 9
    · exact l1Num_one m W ⟨h0, hm⟩
    · exact l1Num_step m W ⟨by omega, by omega⟩ (fun X => l1Num_one _ X ⟨by omega, by omega⟩)
  by_cases hn : n ≤ 99
  · exact h2 n w h.1 hn
  · exact l1Num_step n w ⟨by omega, h.2⟩ (fun X => h2 _ X (by omega) (by omega))
end Go.Proofs.YtjndhgjmnoiegaaDoor
