/- The text of meddles by the program and by the reference. -/
import Derived.Test.YtjndhgjmnoiegaaDoorMtl
import Derived.BigRegion
import Derived.OrdersHeld
import Derived.Deep.DeepCutAuto
namespace Go.Proofs.YtjndhgjmnoiegaaDoor
open Go.RowKit
/-- The words of meddles. -/
def wordB (kd : Int) : ByteArray := if kd = 1 then ⟨#[98, 101, 110, 100]⟩ else if kd = 2 then ⟨#[100, 114, 111, 112]⟩ else if kd = 3 then ⟨#[114, 101, 112, 101, 97, 116]⟩ else ⟨#[116, 117, 114, 110]⟩
theorem wordB_size (kd : Int) : (wordB kd).size ≤ 6 := by
  unfold wordB
  split
  · decide
  · split
    · decide
    · split <;> decide
def medT (kd a x v : Int) : ByteArray := if kd = 1 then lnP (wordB 1) [a, x, v] 3 ++ nlB else lnP (wordB kd) [a] 1 ++ nlB
def txP (L : List Int) : Nat → ByteArray
  | 0 => ⟨#[]⟩
  | k + 1 => txP L k ++ medT (L.getD (k * 4) 0) (L.getD (k * 4 + 1) 0) (L.getD (k * 4 + 2) 0) (L.getD (k * 4 + 3) 0)
/-- What a valid meddle's numbers are. -/
def MvR (kd a x v : Int) : Prop := (0 ≤ a ∧ a ≤ 5) ∧ (0 ≤ x ∧ x ≤ 3) ∧ (0 ≤ v ∧ v ≤ 250) ∧ (kd = 1 ∨ kd = 2 ∨ kd = 3 ∨ kd = 4)
theorem mv_rng {p kd a x v : Int} (hp : p ≤ 251) (h : medB p kd a x v = true) : MvR kd a x v := by
  unfold medB at h
  simp only [Bool.and_eq_true] at h
  obtain ⟨h1, h2, h3⟩ := h
  have a1 := inB_true h1
  have a2 := kd_cases h2
  refine ⟨a1, ?_, ?_, a2⟩
  · split at h3
    · rw [Bool.and_eq_true] at h3
      have := inB_true h3.1
      have := blen_bd (a / 2).toNat
      omega
    · simp only [Bool.and_eq_true, decide_eq_true_eq] at h3
      omega
  · split at h3
    · rw [Bool.and_eq_true] at h3
      have := inB_true h3.2
      omega
    · simp only [Bool.and_eq_true, decide_eq_true_eq] at h3
      omega
theorem num3 {a x v : Int} (ha : 0 ≤ a ∧ a ≤ 999) (hx : 0 ≤ x ∧ x ≤ 999) (hv : 0 ≤ v ∧ v ≤ 999) : ∀ k, 0 ≤ [a, x, v].getD k 0 ∧ [a, x, v].getD k 0 ≤ 999 := fun k => by
  match k with
  | 0 => exact ha
  | 1 => exact hx
  | 2 => exact hv
  | k + 3 => show (0 : Int) ≤ 0 ∧ (0 : Int) ≤ 999; omega
theorem num1 {a : Int} (ha : 0 ≤ a ∧ a ≤ 999) : ∀ k, 0 ≤ [a].getD k 0 ∧ [a].getD k 0 ≤ 999 := fun k => by
  match k with
  | 0 => exact ha
  | k + 1 => show (0 : Int) ≤ 0 ∧ (0 : Int) ≤ 999; omega
theorem medT_size {kd a x v : Int} (h : MvR kd a x v) : (medT kd a x v).size ≤ 30 := by
  obtain ⟨ha, hx, hv, _⟩ := h
  unfold medT
  split
  · have h1 := lnP_size (word := wordB 1) (num3 (a := a) (x := x) (v := v) ⟨ha.1, by omega⟩ ⟨hx.1, by omega⟩ ⟨hv.1, by omega⟩) 3
    have h2 := wordB_size 1
    rw [app_size, nl_size]
    omega
  · have h1 := lnP_size (word := wordB kd) (num1 (a := a) ⟨ha.1, by omega⟩) 1
    have h2 := wordB_size kd
    rw [app_size, nl_size]
    omega
theorem txP_size {L : List Int} {n : Nat} (h : ∀ k, k < n → MvR (L.getD (k * 4) 0) (L.getD (k * 4 + 1) 0) (L.getD (k * 4 + 2) 0) (L.getD (k * 4 + 3) 0)) : ∀ k, k ≤ n → (txP L k).size ≤ 30 * k
  | 0, _ => by show (0 : Nat) ≤ 0; omega
  | k + 1, hk => by
    have h1 := txP_size h k (by omega)
    have h2 := medT_size (h k (by omega))
    rw [txP, app_size]
    omega
/-- The program's table of words. -/
def Wds (w : World) : Prop := w.cell? ⟨0, 0, none⟩ = some (.string (wordB 1)) ∧ w.cell? ⟨0, 1, none⟩ = some (.string (wordB 2)) ∧ w.cell? ⟨0, 2, none⟩ = some (.string (wordB 3)) ∧ w.cell? ⟨0, 3, none⟩ = some (.string (wordB 4))
theorem Wds.below {w w' : World} (h : Wds w) (hb : Below w.heap.size w w') : Wds w' := ⟨keepC hb h.1, keepC hb h.2.1, keepC hb h.2.2.1, keepC hb h.2.2.2⟩
set_option maxHeartbeats 8000000 in
set_option maxRecDepth 100000 in
theorem meddlesText_any (a : Option Addr) (n c : Nat) (L : List Int) (w : World) (h : Flat 4 w a n c L) (hn : n ≤ 6) (hv : ∀ k, k < n → MvR (L.getD (k * 4) 0) (L.getD (k * 4 + 1) 0) (L.getD (k * 4 + 2) 0) (L.getD (k * 4 + 3) 0)) (hT : Pow w) (hW : Wds w) :
    Calls Tryd.prog 19 #[.slice a n c] w fun e w' => e = .returned (.string (txP L n)) ∧ Below w.heap.size w w' := by
  have LL := Lib.hid h
  have LT := Lib.hid hT
  have LW := Lib.hid hW
  have HSZ := Lib.hid (txP_size hv)
  have HV := Lib.hid hv
  have hle := h.le4
  clear h hT hW hv

  go_enter Tryd.func19, Tryd.ntmps19
  go_wp2
  go_loopw [9, 3] (fun v u wr => ∃ k : Nat, k ≤ n ∧ v = .int .i64 k ∧ u = .string (txP L k) ∧ Below w.heap.size w wr) (fun v _ _ => n - (intOf v).toNat)
  case atStart => exact ⟨0, Nat.zero_le _, rfl, rfl, Below.refl _ _⟩
  case round =>
    obtain ⟨k, hk, rfl, rfl, hb⟩ := hrel
    by_cases hlt : k < n

    · skip
      obtain ⟨g, o, rfl, hc⟩ := (LL.out.below hb).at (by omega)
      have c0 : wr.cell? ⟨g, o + k * 4, none⟩ = some (.int .i64 (L.getD (k * 4) 0)) := hc (k * 4) (by omega)
      have c1 : wr.cell? ⟨g, o + k * 4 + 1, none⟩ = some (.int .i64 (L.getD (k * 4 + 1) 0)) := by have := hc (k * 4 + 1) (by omega); simpa only [Nat.add_assoc] using this
      have c2 : wr.cell? ⟨g, o + k * 4 + 2, none⟩ = some (.int .i64 (L.getD (k * 4 + 2) 0)) := by have := hc (k * 4 + 2) (by omega); simpa only [Nat.add_assoc] using this
      have c3 : wr.cell? ⟨g, o + k * 4 + 3, none⟩ = some (.int .i64 (L.getD (k * 4 + 3) 0)) := by have := hc (k * 4 + 3) (by omega); simpa only [Nat.add_assoc] using this
      clear hc
      have hr := HV.out k hlt
      have hsz := HSZ.out k (by omega)
      have hli : (k : Int) < (n : Int) := by omega
      have HN : Hid (txP L (k + 1) = txP L k ++ medT (L.getD (k * 4) 0) (L.getD (k * 4 + 1) 0) (L.getD (k * 4 + 2) 0) (L.getD (k * 4 + 3) 0)) := rfl
      generalize L.getD (k * 4) 0 = kd at *
      generalize L.getD (k * 4 + 1) 0 = ka at *
      generalize L.getD (k * 4 + 2) 0 = kx at *
      generalize L.getD (k * 4 + 3) 0 = kv at *
      generalize txP L k = O at *
      obtain ⟨ha, hx, hv, hkd⟩ := hr

      go_upto_region 5 with fail
      clear c0 c1 c2 c3
      refine Exists.elim (Blk.new_ wr (b := wr.heap.size) rfl 35 #[.int .i64 kd, .int .i64 ka, .int .i64 kx, .int .i64 kv]) (fun w1' q => ?_)
      rw [q.1]; have B_m := q.2.1; have s_w1' := q.2.2.1; have u_w1' := q.2.2.2; clear q
      have S_w1' : wr.heap.size + 1 ≤ w1'.heap.size := Nat.le_of_eq s_w1'.symm
      have V_w1' := hb.trans (u_w1'.mono (hb).size)
      clear u_w1' s_w1' hb
      have WD := LW.out.below V_w1'
      obtain ⟨d0, d1, d2, d3⟩ := WD
      rcases hkd with rfl | rfl | rfl | rfl

      · have h1 := lnP_size (word := wordB 1) (num3 (a := ka) (x := kx) (v := kv) ⟨ha.1, by omega⟩ ⟨hx.1, by omega⟩ ⟨hv.1, by omega⟩) 3
        have h2 := wordB_size 1
        have HT : Hid (medT 1 ka kx kv = lnP (wordB 1) [ka, kx, kv] 3 ++ nlB) := rfl
        have CL := Lib.hid (fun (W : World) (a : Option Addr) (c : Nat) (z : Ints W a 3 c [ka, kx, kv]) (t : Pow W) => line_any (wordB 1) a 3 c [ka, kx, kv] W z (by omega) (by omega) (num3 ⟨ha.1, by omega⟩ ⟨hx.1, by omega⟩ ⟨hv.1, by omega⟩) t)
        generalize lnP (wordB 1) [ka, kx, kv] 3 = X at *
        have s1 : ¬ (O.size + (X ++ nlB).size > 9223372036854775807) := by rw [app_size, nl_size]; omega
        clear h1 h2 hsz ha hx hv
        have e_m := B_m.all4
        go_wp2_with fail
        clear e_m
        clear d0 d1 d2 d3
        have r : Own (w1'.alloc (.cells #[.int .i64 ka, .int .i64 kx, .int .i64 kv] 3)) w1'.heap.size (some ⟨w1'.heap.size, 0, none⟩) 3 3 [ka, kx, kv] := Own.lit w1' w1'.heap.size [ka, kx, kv] (Nat.le_refl _) (by simp [maxLen])
        replace B_m := Blk.alloc B_m (.cells #[.int .i64 ka, .int .i64 kx, .int .i64 kv] 3)
        have V_w2' : Below w.heap.size w (w1'.alloc (.cells #[.int .i64 ka, .int .i64 kx, .int .i64 kv] 3)) := V_w1'.alloc V_w1'.size _
        have S_w2' : w1'.heap.size < (w1'.alloc (.cells #[.int .i64 ka, .int .i64 kx, .int .i64 kv] 3)).heap.size := by simp
        generalize (w1'.alloc (.cells #[.int .i64 ka, .int .i64 kx, .int .i64 kv] 3)) = w2' at *
        clear V_w1'
        refine (CL.out _ _ _ r.ints (LT.out.below V_w2')).mono ?_
        rintro e w3' ⟨rfl, u_w3'⟩
        replace B_m := B_m.below u_w3'
        replace r := r.below u_w3'
        have S_w3' := u_w3'.size
        have V_w3' : Below w.heap.size w w3' := V_w2'.trans (u_w3'.mono V_w2'.size)
        clear V_w2'
        clear u_w3'
        go_wp2
        go_roundw
        case rel => exact ⟨k + 1, by omega, by go_num, by rw [HN.out, HT.out], V_w3'⟩
        case measure => simp [intOf]; omega


      · have h1 := lnP_size (word := wordB 2) (num1 (a := ka) ⟨ha.1, by omega⟩) 1
        have h2 := wordB_size 2
        have HT : Hid (medT 2 ka kx kv = lnP (wordB 2) [ka] 1 ++ nlB) := rfl
        have CL := Lib.hid (fun (W : World) (a : Option Addr) (c : Nat) (z : Ints W a 1 c [ka]) (t : Pow W) => line_any (wordB 2) a 1 c [ka] W z (by omega) (by omega) (num1 ⟨ha.1, by omega⟩) t)
        generalize lnP (wordB 2) [ka] 1 = X at *
        have s1 : ¬ (O.size + (X ++ nlB).size > 9223372036854775807) := by rw [app_size, nl_size]; omega
        clear h1 h2 hsz ha hx hv
        have e_m := B_m.all4
        go_wp2_with fail
        clear e_m
        clear d0 d1 d2 d3
        have r : Own (w1'.alloc (.cells #[.int .i64 ka] 3)) w1'.heap.size (some ⟨w1'.heap.size, 0, none⟩) 1 1 [ka] := Own.lit w1' w1'.heap.size [ka] (Nat.le_refl _) (by simp [maxLen])
        replace B_m := Blk.alloc B_m (.cells #[.int .i64 ka] 3)
        have V_w4' : Below w.heap.size w (w1'.alloc (.cells #[.int .i64 ka] 3)) := V_w1'.alloc V_w1'.size _
        have S_w4' : w1'.heap.size < (w1'.alloc (.cells #[.int .i64 ka] 3)).heap.size := by simp
        generalize (w1'.alloc (.cells #[.int .i64 ka] 3)) = w4' at *
        clear V_w1'
        refine (CL.out _ _ _ r.ints (LT.out.below V_w4')).mono ?_
        rintro e w5' ⟨rfl, u_w5'⟩
        replace B_m := B_m.below u_w5'
        replace r := r.below u_w5'
        have S_w5' := u_w5'.size
        have V_w5' : Below w.heap.size w w5' := V_w4'.trans (u_w5'.mono V_w4'.size)
        clear V_w4'
        clear u_w5'
        go_wp2
        go_roundw
        case rel => exact ⟨k + 1, by omega, by go_num, by rw [HN.out, HT.out], V_w5'⟩
        case measure => simp [intOf]; omega


      · have h1 := lnP_size (word := wordB 3) (num1 (a := ka) ⟨ha.1, by omega⟩) 1
        have h2 := wordB_size 3
        have HT : Hid (medT 3 ka kx kv = lnP (wordB 3) [ka] 1 ++ nlB) := rfl
        have CL := Lib.hid (fun (W : World) (a : Option Addr) (c : Nat) (z : Ints W a 1 c [ka]) (t : Pow W) => line_any (wordB 3) a 1 c [ka] W z (by omega) (by omega) (num1 ⟨ha.1, by omega⟩) t)
        generalize lnP (wordB 3) [ka] 1 = X at *
        have s1 : ¬ (O.size + (X ++ nlB).size > 9223372036854775807) := by rw [app_size, nl_size]; omega
        clear h1 h2 hsz ha hx hv
        have e_m := B_m.all4
        go_wp2_with fail
        clear e_m
        clear d0 d1 d2 d3
        have r : Own (w1'.alloc (.cells #[.int .i64 ka] 3)) w1'.heap.size (some ⟨w1'.heap.size, 0, none⟩) 1 1 [ka] := Own.lit w1' w1'.heap.size [ka] (Nat.le_refl _) (by simp [maxLen])
        replace B_m := Blk.alloc B_m (.cells #[.int .i64 ka] 3)
        have V_w6' : Below w.heap.size w (w1'.alloc (.cells #[.int .i64 ka] 3)) := V_w1'.alloc V_w1'.size _
        have S_w6' : w1'.heap.size < (w1'.alloc (.cells #[.int .i64 ka] 3)).heap.size := by simp
        generalize (w1'.alloc (.cells #[.int .i64 ka] 3)) = w6' at *
        clear V_w1'
        refine (CL.out _ _ _ r.ints (LT.out.below V_w6')).mono ?_
        rintro e w7' ⟨rfl, u_w7'⟩
        replace B_m := B_m.below u_w7'
        replace r := r.below u_w7'
        have S_w7' := u_w7'.size
        have V_w7' : Below w.heap.size w w7' := V_w6'.trans (u_w7'.mono V_w6'.size)
        clear V_w6'
        clear u_w7'
        go_wp2
        go_roundw
        case rel => exact ⟨k + 1, by omega, by go_num, by rw [HN.out, HT.out], V_w7'⟩
        case measure => simp [intOf]; omega


      · have h1 := lnP_size (word := wordB 4) (num1 (a := ka) ⟨ha.1, by omega⟩) 1
        have h2 := wordB_size 4
        have HT : Hid (medT 4 ka kx kv = lnP (wordB 4) [ka] 1 ++ nlB) := rfl
        have CL := Lib.hid (fun (W : World) (a : Option Addr) (c : Nat) (z : Ints W a 1 c [ka]) (t : Pow W) => line_any (wordB 4) a 1 c [ka] W z (by omega) (by omega) (num1 ⟨ha.1, by omega⟩) t)
        generalize lnP (wordB 4) [ka] 1 = X at *
        have s1 : ¬ (O.size + (X ++ nlB).size > 9223372036854775807) := by rw [app_size, nl_size]; omega
        clear h1 h2 hsz ha hx hv
        have e_m := B_m.all4
        go_wp2_with fail
        clear e_m
        clear d0 d1 d2 d3
        have r : Own (w1'.alloc (.cells #[.int .i64 ka] 3)) w1'.heap.size (some ⟨w1'.heap.size, 0, none⟩) 1 1 [ka] := Own.lit w1' w1'.heap.size [ka] (Nat.le_refl _) (by simp [maxLen])
        replace B_m := Blk.alloc B_m (.cells #[.int .i64 ka] 3)
        have V_w8' : Below w.heap.size w (w1'.alloc (.cells #[.int .i64 ka] 3)) := V_w1'.alloc V_w1'.size _
        have S_w8' : w1'.heap.size < (w1'.alloc (.cells #[.int .i64 ka] 3)).heap.size := by simp
        generalize (w1'.alloc (.cells #[.int .i64 ka] 3)) = w8' at *
        clear V_w1'
        refine (CL.out _ _ _ r.ints (LT.out.below V_w8')).mono ?_
        rintro e w9' ⟨rfl, u_w9'⟩
        replace B_m := B_m.below u_w9'
        replace r := r.below u_w9'
        have S_w9' := u_w9'.size
        have V_w9' : Below w.heap.size w w9' := V_w8'.trans (u_w9'.mono V_w8'.size)
        clear V_w8'
        clear u_w9'
        go_wp2
        go_roundw
        case rel => exact ⟨k + 1, by omega, by go_num, by rw [HN.out, HT.out], V_w9'⟩
        case measure => simp [intOf]; omega


    · obtain rfl : n = k := by omega
      go_wp2
      go_ret
      exact ⟨rfl, hb⟩
theorem nwWords_any (w : World) :
    Calls Tryd.prog 24 #[] w fun e w' => ∃ g, e = .returned (.slice (some ⟨g, 0, none⟩) 4 4) ∧ Blk w' g 9 #[.string (wordB 1), .string (wordB 2), .string (wordB 3), .string (wordB 4)] ∧ Below w.heap.size w w' := by
  go_enter Tryd.func24, Tryd.ntmps24
  go_wp2
  go_ret
  exact ⟨_, rfl, Blk.new w _ _, (Below.refl _ _).alloc (Nat.le_refl _) _⟩
set_option maxHeartbeats 8000000 in
set_option maxRecDepth 100000 in
theorem nwText_any (a : Option Addr) (n c : Nat) (L : List Int) (w : World) (h : Flat 4 w a n c L) (hn : n ≤ 6) (hv : ∀ k, k < n → MvR (L.getD (k * 4) 0) (L.getD (k * 4 + 1) 0) (L.getD (k * 4 + 2) 0) (L.getD (k * 4 + 3) 0)) :
    Calls Tryd.prog 18 #[.slice a n c] w fun e w' => e = .returned (.string (txP L n)) ∧ Below w.heap.size w w' := by
  have LL := Lib.hid h
  have HSZ := Lib.hid (txP_size hv)
  have HV := Lib.hid hv
  have hle := h.le4
  clear h hv

  go_enter Tryd.func18, Tryd.ntmps18
  go_wp2
  go_loopw [8, 3] (fun v u wr => ∃ k : Nat, k ≤ n ∧ v = .int .i64 k ∧ u = .string (txP L k) ∧ Below w.heap.size w wr) (fun v _ _ => n - (intOf v).toNat)
  case atStart => exact ⟨0, Nat.zero_le _, rfl, rfl, Below.refl _ _⟩
  case round =>
    obtain ⟨k, hk, rfl, rfl, hb⟩ := hrel
    by_cases hlt : k < n

    · skip
      obtain ⟨g, o, rfl, hc⟩ := (LL.out.below hb).at (by omega)
      have c0 : wr.cell? ⟨g, o + k * 4, none⟩ = some (.int .i64 (L.getD (k * 4) 0)) := hc (k * 4) (by omega)
      have c1 : wr.cell? ⟨g, o + k * 4 + 1, none⟩ = some (.int .i64 (L.getD (k * 4 + 1) 0)) := by have := hc (k * 4 + 1) (by omega); simpa only [Nat.add_assoc] using this
      have c2 : wr.cell? ⟨g, o + k * 4 + 2, none⟩ = some (.int .i64 (L.getD (k * 4 + 2) 0)) := by have := hc (k * 4 + 2) (by omega); simpa only [Nat.add_assoc] using this
      have c3 : wr.cell? ⟨g, o + k * 4 + 3, none⟩ = some (.int .i64 (L.getD (k * 4 + 3) 0)) := by have := hc (k * 4 + 3) (by omega); simpa only [Nat.add_assoc] using this
      clear hc
      have hr := HV.out k hlt
      have hsz := HSZ.out k (by omega)
      have hli : (k : Int) < (n : Int) := by omega
      have HN : Hid (txP L (k + 1) = txP L k ++ medT (L.getD (k * 4) 0) (L.getD (k * 4 + 1) 0) (L.getD (k * 4 + 2) 0) (L.getD (k * 4 + 3) 0)) := rfl
      generalize L.getD (k * 4) 0 = kd at *
      generalize L.getD (k * 4 + 1) 0 = ka at *
      generalize L.getD (k * 4 + 2) 0 = kx at *
      generalize L.getD (k * 4 + 3) 0 = kv at *
      generalize txP L k = O at *
      obtain ⟨ha, hx, hv, hkd⟩ := hr

      have n1 := numB_size ha.1 (by omega)
      have n2 := numB_size hx.1 (by omega)
      have n3 := numB_size hv.1 (by omega)
      have C1 := Lib.hid (fun (W : World) => l1Num_any ka W ⟨ha.1, by omega⟩)
      have C2 := Lib.hid (fun (W : World) => l1Num_any kx W ⟨hx.1, by omega⟩)
      have C3 := Lib.hid (fun (W : World) => l1Num_any kv W ⟨hv.1, by omega⟩)
      have HT1 : Hid (medT 1 ka kx kv = lnP (wordB 1) [ka, kx, kv] 3 ++ nlB) := rfl
      have HT2 : Hid (∀ q : Int, q ≠ 1 → medT q ka kx kv = lnP (wordB q) [ka] 1 ++ nlB) := Lib.hid (fun q hq => if_neg hq)
      have HP3 : Hid (lnP (wordB 1) [ka, kx, kv] 3 = ((wordB 1 ++ (spB ++ numB ka)) ++ (spB ++ numB kx)) ++ (spB ++ numB kv)) := rfl
      have HP1 : Hid (∀ q : Int, lnP (wordB q) [ka] 1 = wordB q ++ (spB ++ numB ka)) := Lib.hid (fun _ => rfl)
      generalize numB ka = N1 at *
      generalize numB kx = N2 at *
      generalize numB kv = N3 at *
      go_upto_region 5 with fail
      clear c0 c1 c2 c3
      refine Exists.elim (Blk.new_ wr (b := wr.heap.size) rfl 35 #[.int .i64 kd, .int .i64 ka, .int .i64 kx, .int .i64 kv]) (fun w1' q => ?_)
      rw [q.1]; have B_m := q.2.1; have s_w1' := q.2.2.1; have u_w1' := q.2.2.2; clear q
      have S_w1' : wr.heap.size + 1 ≤ w1'.heap.size := Nat.le_of_eq s_w1'.symm
      have V_w1' := hb.trans (u_w1'.mono (hb).size)
      clear u_w1' s_w1' hb
      have hm : wr.heap.size < w1'.heap.size := by omega
      generalize wr.heap.size = bm at *
      have z0 : (ByteArray.mk #[32]).size = 1 := rfl
      have z1 : (ByteArray.mk #[10]).size = 1 := rfl
      have zw := fun q => wordB_size q
      rcases hkd with rfl | rfl | rfl | rfl

      · have z2 := zw 1
        have wk : IntKind.i64.wrap (0 : Int) = 0 := IntWalk.i64_in _ (by omega)
        have s1 : ¬ ((wordB 1).size + (ByteArray.mk #[32]).size > 9223372036854775807) := by omega
        have s2 : ¬ ((wordB 1 ++ ByteArray.mk #[32]).size + N1.size > 9223372036854775807) := by rw [app_size]; omega
        have s3 : ¬ (O.size + (wordB 1 ++ ByteArray.mk #[32] ++ N1).size > 9223372036854775807) := by rw [app_size, app_size]; omega
        have q1 : ¬ (9223372036854775807 < (wordB 1).size + 1) := by omega
        have q2 : ¬ (9223372036854775807 < (wordB 1).size + 1 + N1.size) := by omega
        have q3 : ¬ (9223372036854775807 < O.size + ((wordB 1).size + 1 + N1.size)) := by omega
        obtain ⟨O2, hO2⟩ : ∃ x, x = O ++ (wordB 1 ++ ByteArray.mk #[32] ++ N1) := ⟨_, rfl⟩
        have hz2 : O2.size ≤ 1000 := by rw [hO2, app_size, app_size, app_size]; omega
        have HO2 := Lib.hid hO2
        have HZ := Lib.hid (And.intro z0 z1)
        clear hO2 z0 z1 z2 zw
        go_cut [3] (fun v wx => v = .string O2 ∧ Below w1'.heap.size w1' wx)

        case first => as_aux_lemma =>
          refine wp_region_noPanic ?_
          refine wp_region_held_drew (S := (fun W => Blk W (bm) 35 #[.int .i64 1, .int .i64 ka, .int .i64 kx, .int .i64 kv])) (by kernel_rfl) ?hS1 (fun hHeld => ?go1)
          case hS1 => exact B_m.drew
          refine tk (i := 0) (oi := ⟨some 12, _, _, _, _, _⟩) (v := ?v0_2) hHeld rfl ?y0_2 ?r0_2
          case y0_2 => (intro w _; first | (go_simp; done) | (go_simp; with_reducible rfl) | (with_reducible rfl))
          (try simp only [pt_])
          refine tk (i := 2) (oi := ⟨some 14, _, _, _, _, _⟩) (v := ?v2_3) hHeld rfl ?y2_3 ?r2_3
          case y2_3 => (intro w _; first | (go_simp; done) | (go_simp; with_reducible rfl) | (with_reducible rfl))
          (try simp only [pt_])
          refine tk (i := 3) (oi := ⟨some 15, _, _, _, _, _⟩) (v := ?v3_4) hHeld rfl ?y3_4 ?r3_4
          case y3_4 => (intro w qS0; have cS0 := qS0.all4; first | (go_simp; done) | (go_simp; with_reducible rfl) | (with_reducible rfl))
          (try simp only [pt_])
          refine tk (i := 4) (oi := ⟨some 16, _, _, _, _, _⟩) (v := ?v4_5) hHeld rfl ?y4_5 ?r4_5
          case y4_5 => (intro w _; first | (go_simp; done) | (go_simp; with_reducible rfl) | (with_reducible rfl))
          (try simp only [pt_])
          refine tk (i := 8) (oi := ⟨some 20, _, _, _, _, _⟩) (v := ?v8_6) hHeld rfl ?y8_6 ?r8_6
          case y8_6 => (intro w _; first | (go_simp; done) | (go_simp; with_reducible rfl) | (with_reducible rfl))
          (try simp only [pt_])
          refine tk (i := 9) (oi := ⟨some 21, _, _, _, _, _⟩) (v := ?v9_7) hHeld rfl ?y9_7 ?r9_7
          case y9_7 => (intro w qS0; have cS0 := qS0.all4; first | (go_simp; done) | (go_simp; with_reducible rfl) | (with_reducible rfl))
          (try simp only [pt_])
          refine wpAnyH_ready (rs := [1]) (by kernel_rfl) (by simp) ?_
          refine AllReadyH.cons (o := { dst := some 13, op := _, type := _, pos := _, after := _, guard := _ }) rfl (fun K hK => ?_) ?_
          go_simp
          refine (nwWords_any _).mono ?_
          rintro e w1 ⟨gw, rfl, bw1, u1⟩
          have bm1 := (Blk.drew B_m).below u1
          have wc1 : w1.cell? ⟨gw, 0, none⟩ = some (.string (wordB 1)) := bw1.cell 0
          have v1 := (Below.refl _ _).drew.trans (u1.mono (Nat.le_refl _))
          refine hK.out _ _ ?_ (fun hHeld => ?_)
          · exact bm1
          clear hK K
          (try simp only [pt_])
          refine tk (i := 5) (oi := ⟨some 17, _, _, _, _, _⟩) (v := ?v5_8) hHeld rfl ?y5_8 ?r5_8
          case y5_8 => (intro w _; first | (go_simp; done) | (go_simp; with_reducible rfl) | (with_reducible rfl))
          (try simp only [pt_])
          refine wpAnyH_ready (rs := [6, 10]) (by kernel_rfl) (by simp) ?_
          refine AllReadyH.cons (o := { dst := some 18, op := _, type := _, pos := _, after := _, guard := _ }) rfl (fun K hK => ?_) ?_
          go_simp
          refine hK.out _ _ ?_ (fun hHeld => ?_)
          · first | exact bm10 | exact bm1
          clear hK K
          (try simp only [pt_])
          refine tk (i := 7) (oi := ⟨some 19, _, _, _, _, _⟩) (v := ?v7_9) hHeld rfl ?y7_9 ?r7_9
          case y7_9 => (intro w _; first | (go_simp; done) | (go_simp; with_reducible rfl) | (with_reducible rfl))
          (try simp only [pt_])
          refine wpAnyH_ready (rs := [10]) (by kernel_rfl) (by simp) ?_
          refine AllReadyH.cons (o := { dst := some 22, op := _, type := _, pos := _, after := _, guard := _ }) rfl (fun K hK => ?_) ?_
          go_simp
          refine (C1.out _).mono ?_
          rintro e w10 ⟨rfl, u10⟩
          have bm10 := bm1.below u10
          have wc10 : w10.cell? ⟨gw, 0, none⟩ = some (.string (wordB 1)) := (bw1.below u10).cell 0
          have v10 := v1.trans (u10.mono v1.size)
          refine hK.out _ _ ?_ (fun hHeld => ?_)
          · exact bm10
          clear hK K
          (try simp only [pt_])
          refine tk (i := 11) (oi := ⟨some 23, _, _, _, _, _⟩) (v := ?v11_10) hHeld rfl ?y11_10 ?r11_10
          case y11_10 => (intro w _; first | (go_simp; done) | (go_simp; with_reducible rfl) | (with_reducible rfl))
          (try simp only [pt_])
          refine tk (i := 12) (oi := ⟨some 24, _, _, _, _, _⟩) (v := ?v12_11) hHeld rfl ?y12_11 ?r12_11
          case y12_11 => (intro w _; first | (go_simp; done) | (go_simp; with_reducible rfl) | (with_reducible rfl))
          (try simp only [pt_])
          refine tk (i := 13) (oi := ⟨some 3, _, _, _, _, _⟩) (v := ?v13_12) hHeld rfl ?y13_12 ?r13_12
          case y13_12 => (intro w _; first | (go_simp; done) | (go_simp; with_reducible rfl) | (with_reducible rfl))
          (try simp only [pt_])
          refine wpAnyH_done (by kernel_rfl) ?_ _
          refine NoPanic.normal ?_
          rotate_left 1
          exact AllReadyH.nil
          refine AllReadyH.cons (o := { dst := some 22, op := _, type := _, pos := _, after := _, guard := _ }) rfl (fun K hK => ?_) ?_
          go_simp
          refine (C1.out _).mono ?_
          rintro e w10 ⟨rfl, u10⟩
          have bm10 := bm1.below u10
          have wc10 : w10.cell? ⟨gw, 0, none⟩ = some (.string (wordB 1)) := (bw1.below u10).cell 0
          have v10 := v1.trans (u10.mono v1.size)
          refine hK.out _ _ ?_ (fun hHeld => ?_)
          · exact bm10
          clear hK K
          (try simp only [pt_])
          refine wpAnyH_ready (rs := [6]) (by kernel_rfl) (by simp) ?_
          refine AllReadyH.cons (o := { dst := some 18, op := _, type := _, pos := _, after := _, guard := _ }) rfl (fun K hK => ?_) ?_
          go_simp
          refine hK.out _ _ ?_ (fun hHeld => ?_)
          · first | exact bm10 | exact bm1
          clear hK K
          (try simp only [pt_])
          refine tk (i := 7) (oi := ⟨some 19, _, _, _, _, _⟩) (v := ?v7_13) hHeld rfl ?y7_13 ?r7_13
          case y7_13 => (intro w _; first | (go_simp; done) | (go_simp; with_reducible rfl) | (with_reducible rfl))
          (try simp only [pt_])
          refine tk (i := 11) (oi := ⟨some 23, _, _, _, _, _⟩) (v := ?v11_14) hHeld rfl ?y11_14 ?r11_14
          case y11_14 => (intro w _; first | (go_simp; done) | (go_simp; with_reducible rfl) | (with_reducible rfl))
          (try simp only [pt_])
          refine tk (i := 12) (oi := ⟨some 24, _, _, _, _, _⟩) (v := ?v12_15) hHeld rfl ?y12_15 ?r12_15
          case y12_15 => (intro w _; first | (go_simp; done) | (go_simp; with_reducible rfl) | (with_reducible rfl))
          (try simp only [pt_])
          refine tk (i := 13) (oi := ⟨some 3, _, _, _, _, _⟩) (v := ?v13_16) hHeld rfl ?y13_16 ?r13_16
          case y13_16 => (intro w _; first | (go_simp; done) | (go_simp; with_reducible rfl) | (with_reducible rfl))
          (try simp only [pt_])
          refine wpAnyH_done (by kernel_rfl) ?_ _
          refine NoPanic.normal ?_
          rotate_left 1
          exact AllReadyH.nil
          exact AllReadyH.nil
          exact AllReadyH.nil
          all_goals
            go_wp2_with fail
            go_meet
            case rel => exact ⟨by rw [HO2.out], v10⟩

        case rest => as_aux_lemma =>
          obtain ⟨rfl, hcut⟩ := hcut
          have B_m := B_m.below hcut
          have V_wc := V_w1'.trans (hcut.mono V_w1'.size)
          have S_wc := hcut.size
          clear hcut s1 s2 s3 q1 q2 q3
          have e_m := B_m.all4
          go_upto_region 7 with fail
          clear e_m
          obtain ⟨z0, z1⟩ := HZ.out
          have r1 : ¬ ((ByteArray.mk #[32]).size + N2.size > 9223372036854775807) := by omega
          have r2 : ¬ ((ByteArray.mk #[32] ++ N2).size + (ByteArray.mk #[32]).size > 9223372036854775807) := by rw [app_size]; omega
          have r3 : ¬ ((ByteArray.mk #[32] ++ N2 ++ ByteArray.mk #[32]).size + N3.size > 9223372036854775807) := by rw [app_size, app_size]; omega
          have r4 : ¬ (O2.size + (ByteArray.mk #[32] ++ N2 ++ ByteArray.mk #[32] ++ N3).size > 9223372036854775807) := by rw [app_size, app_size, app_size]; omega
          have r5 : ¬ ((O2 ++ (ByteArray.mk #[32] ++ N2 ++ ByteArray.mk #[32] ++ N3)).size + (ByteArray.mk #[10]).size > 9223372036854775807) := by rw [app_size, app_size, app_size, app_size]; omega
          have q1 : ¬ (9223372036854775807 < 1 + N2.size) := by omega
          have q2 : ¬ (9223372036854775807 < 1 + N2.size + 1) := by omega
          have q3 : ¬ (9223372036854775807 < 1 + N2.size + 1 + N3.size) := by omega
          have q4 : ¬ (9223372036854775807 < O2.size + (1 + N2.size + 1 + N3.size)) := by omega
          have q5 : ¬ (9223372036854775807 < O2.size + (1 + N2.size + 1 + N3.size) + 1) := by omega
          clear z0 z1
          refine wp_region_noPanic ?_
          refine wp_region_held_drew (S := (fun W => Blk W (bm) 35 #[.int .i64 1, .int .i64 ka, .int .i64 kx, .int .i64 kv])) (by kernel_rfl) ?hS17 (fun hHeld => ?go17)
          case hS17 => exact B_m.drew
          refine tk (i := 0) (oi := ⟨some 28, _, _, _, _, _⟩) (v := ?v0_18) hHeld rfl ?y0_18 ?r0_18
          case y0_18 => (intro w _; first | (go_simp; done) | (go_simp; with_reducible rfl) | (with_reducible rfl))
          (try simp only [pt_])
          refine tk (i := 1) (oi := ⟨some 29, _, _, _, _, _⟩) (v := ?v1_19) hHeld rfl ?y1_19 ?r1_19
          case y1_19 => (intro w _; first | (go_simp; done) | (go_simp; with_reducible rfl) | (with_reducible rfl))
          (try simp only [pt_])
          refine tk (i := 2) (oi := ⟨some 30, _, _, _, _, _⟩) (v := ?v2_20) hHeld rfl ?y2_20 ?r2_20
          case y2_20 => (intro w qS0; have cS0 := qS0.all4; first | (go_simp; done) | (go_simp; with_reducible rfl) | (with_reducible rfl))
          (try simp only [pt_])
          refine tk (i := 6) (oi := ⟨some 34, _, _, _, _, _⟩) (v := ?v6_21) hHeld rfl ?y6_21 ?r6_21
          case y6_21 => (intro w _; first | (go_simp; done) | (go_simp; with_reducible rfl) | (with_reducible rfl))
          (try simp only [pt_])
          refine tk (i := 7) (oi := ⟨some 35, _, _, _, _, _⟩) (v := ?v7_22) hHeld rfl ?y7_22 ?r7_22
          case y7_22 => (intro w qS0; have cS0 := qS0.all4; first | (go_simp; done) | (go_simp; with_reducible rfl) | (with_reducible rfl))
          (try simp only [pt_])
          refine wpAnyH_ready (rs := [3]) (by kernel_rfl) (by simp) ?_
          refine AllReadyH.cons (o := { dst := some 31, op := _, type := _, pos := _, after := _, guard := _ }) rfl (fun K hK => ?_) ?_
          go_simp
          refine (C2.out _).mono ?_
          rintro e w3 ⟨rfl, u3⟩
          have bm3 := (Blk.drew B_m).below u3
          have v3 := (Below.refl _ _).drew.trans (u3.mono (Nat.le_refl _))
          refine hK.out _ _ ?_ (fun hHeld => ?_)
          · exact bm3
          clear hK K
          (try simp only [pt_])
          refine tk (i := 4) (oi := ⟨some 32, _, _, _, _, _⟩) (v := ?v4_23) hHeld rfl ?y4_23 ?r4_23
          case y4_23 => (intro w _; first | (go_simp; done) | (go_simp; with_reducible rfl) | (with_reducible rfl))
          (try simp only [pt_])
          refine tk (i := 5) (oi := ⟨some 33, _, _, _, _, _⟩) (v := ?v5_24) hHeld rfl ?y5_24 ?r5_24
          case y5_24 => (intro w _; first | (go_simp; done) | (go_simp; with_reducible rfl) | (with_reducible rfl))
          (try simp only [pt_])
          refine wpAnyH_ready (rs := [8]) (by kernel_rfl) (by simp) ?_
          refine AllReadyH.cons (o := { dst := some 36, op := _, type := _, pos := _, after := _, guard := _ }) rfl (fun K hK => ?_) ?_
          go_simp
          refine (C3.out _).mono ?_
          rintro e w8 ⟨rfl, u8⟩
          have bm8 := bm3.below u8
          have v8 := v3.trans (u8.mono v3.size)
          refine hK.out _ _ ?_ (fun hHeld => ?_)
          · exact bm8
          clear hK K
          (try simp only [pt_])
          refine tk (i := 9) (oi := ⟨some 37, _, _, _, _, _⟩) (v := ?v9_25) hHeld rfl ?y9_25 ?r9_25
          case y9_25 => (intro w _; first | (go_simp; done) | (go_simp; with_reducible rfl) | (with_reducible rfl))
          (try simp only [pt_])
          refine tk (i := 10) (oi := ⟨some 38, _, _, _, _, _⟩) (v := ?v10_26) hHeld rfl ?y10_26 ?r10_26
          case y10_26 => (intro w _; first | (go_simp; done) | (go_simp; with_reducible rfl) | (with_reducible rfl))
          (try simp only [pt_])
          refine tk (i := 11) (oi := ⟨some 3, _, _, _, _, _⟩) (v := ?v11_27) hHeld rfl ?y11_27 ?r11_27
          case y11_27 => (intro w _; first | (go_simp; done) | (go_simp; with_reducible rfl) | (with_reducible rfl))
          (try simp only [pt_])
          refine wpAnyH_done (by kernel_rfl) ?_ _
          refine NoPanic.normal ?_
          rotate_left 1
          exact AllReadyH.nil
          exact AllReadyH.nil
          clear r1 r2 r3 r4 q1 q2 q3 q4
          have u9 := (V_wc).trans (v8.mono (V_wc).size)
          go_wp2
          go_roundw
          case rel => exact ⟨k + 1, by omega, by go_num, by rw [HN.out, HT1.out, HP3.out, HO2.out]; simp only [ByteArray.append_assoc]; rfl, u9⟩
          case measure => simp [intOf]; omega


      · have z2 := zw 2
        have wk : IntKind.i64.wrap (1 : Int) = 1 := IntWalk.i64_in _ (by omega)
        have s1 : ¬ ((wordB 2).size + (ByteArray.mk #[32]).size > 9223372036854775807) := by omega
        have s2 : ¬ ((wordB 2 ++ ByteArray.mk #[32]).size + N1.size > 9223372036854775807) := by rw [app_size]; omega
        have s3 : ¬ (O.size + (wordB 2 ++ ByteArray.mk #[32] ++ N1).size > 9223372036854775807) := by rw [app_size, app_size]; omega
        have q1 : ¬ (9223372036854775807 < (wordB 2).size + 1) := by omega
        have q2 : ¬ (9223372036854775807 < (wordB 2).size + 1 + N1.size) := by omega
        have q3 : ¬ (9223372036854775807 < O.size + ((wordB 2).size + 1 + N1.size)) := by omega
        obtain ⟨O2, hO2⟩ : ∃ x, x = O ++ (wordB 2 ++ ByteArray.mk #[32] ++ N1) := ⟨_, rfl⟩
        have hz2 : O2.size ≤ 1000 := by rw [hO2, app_size, app_size, app_size]; omega
        have HO2 := Lib.hid hO2
        have HZ := Lib.hid (And.intro z0 z1)
        clear hO2 z0 z1 z2 zw
        go_cut [3] (fun v wx => v = .string O2 ∧ Below w1'.heap.size w1' wx)

        case first => as_aux_lemma =>
          refine wp_region_noPanic ?_
          refine wp_region_held_drew (S := (fun W => Blk W (bm) 35 #[.int .i64 2, .int .i64 ka, .int .i64 kx, .int .i64 kv])) (by kernel_rfl) ?hS28 (fun hHeld => ?go28)
          case hS28 => exact B_m.drew
          refine tk (i := 0) (oi := ⟨some 12, _, _, _, _, _⟩) (v := ?v0_29) hHeld rfl ?y0_29 ?r0_29
          case y0_29 => (intro w _; first | (go_simp; done) | (go_simp; with_reducible rfl) | (with_reducible rfl))
          (try simp only [pt_])
          refine tk (i := 2) (oi := ⟨some 14, _, _, _, _, _⟩) (v := ?v2_30) hHeld rfl ?y2_30 ?r2_30
          case y2_30 => (intro w _; first | (go_simp; done) | (go_simp; with_reducible rfl) | (with_reducible rfl))
          (try simp only [pt_])
          refine tk (i := 3) (oi := ⟨some 15, _, _, _, _, _⟩) (v := ?v3_31) hHeld rfl ?y3_31 ?r3_31
          case y3_31 => (intro w qS0; have cS0 := qS0.all4; first | (go_simp; done) | (go_simp; with_reducible rfl) | (with_reducible rfl))
          (try simp only [pt_])
          refine tk (i := 4) (oi := ⟨some 16, _, _, _, _, _⟩) (v := ?v4_32) hHeld rfl ?y4_32 ?r4_32
          case y4_32 => (intro w _; first | (go_simp; done) | (go_simp; with_reducible rfl) | (with_reducible rfl))
          (try simp only [pt_])
          refine tk (i := 8) (oi := ⟨some 20, _, _, _, _, _⟩) (v := ?v8_33) hHeld rfl ?y8_33 ?r8_33
          case y8_33 => (intro w _; first | (go_simp; done) | (go_simp; with_reducible rfl) | (with_reducible rfl))
          (try simp only [pt_])
          refine tk (i := 9) (oi := ⟨some 21, _, _, _, _, _⟩) (v := ?v9_34) hHeld rfl ?y9_34 ?r9_34
          case y9_34 => (intro w qS0; have cS0 := qS0.all4; first | (go_simp; done) | (go_simp; with_reducible rfl) | (with_reducible rfl))
          (try simp only [pt_])
          refine wpAnyH_ready (rs := [1]) (by kernel_rfl) (by simp) ?_
          refine AllReadyH.cons (o := { dst := some 13, op := _, type := _, pos := _, after := _, guard := _ }) rfl (fun K hK => ?_) ?_
          go_simp
          refine (nwWords_any _).mono ?_
          rintro e w1 ⟨gw, rfl, bw1, u1⟩
          have bm1 := (Blk.drew B_m).below u1
          have wc1 : w1.cell? ⟨gw, 1, none⟩ = some (.string (wordB 2)) := bw1.cell 1
          have v1 := (Below.refl _ _).drew.trans (u1.mono (Nat.le_refl _))
          refine hK.out _ _ ?_ (fun hHeld => ?_)
          · exact bm1
          clear hK K
          (try simp only [pt_])
          refine tk (i := 5) (oi := ⟨some 17, _, _, _, _, _⟩) (v := ?v5_35) hHeld rfl ?y5_35 ?r5_35
          case y5_35 => (intro w _; first | (go_simp; done) | (go_simp; with_reducible rfl) | (with_reducible rfl))
          (try simp only [pt_])
          refine wpAnyH_ready (rs := [6, 10]) (by kernel_rfl) (by simp) ?_
          refine AllReadyH.cons (o := { dst := some 18, op := _, type := _, pos := _, after := _, guard := _ }) rfl (fun K hK => ?_) ?_
          go_simp
          refine hK.out _ _ ?_ (fun hHeld => ?_)
          · first | exact bm10 | exact bm1
          clear hK K
          (try simp only [pt_])
          refine tk (i := 7) (oi := ⟨some 19, _, _, _, _, _⟩) (v := ?v7_36) hHeld rfl ?y7_36 ?r7_36
          case y7_36 => (intro w _; first | (go_simp; done) | (go_simp; with_reducible rfl) | (with_reducible rfl))
          (try simp only [pt_])
          refine wpAnyH_ready (rs := [10]) (by kernel_rfl) (by simp) ?_
          refine AllReadyH.cons (o := { dst := some 22, op := _, type := _, pos := _, after := _, guard := _ }) rfl (fun K hK => ?_) ?_
          go_simp
          refine (C1.out _).mono ?_
          rintro e w10 ⟨rfl, u10⟩
          have bm10 := bm1.below u10
          have wc10 : w10.cell? ⟨gw, 1, none⟩ = some (.string (wordB 2)) := (bw1.below u10).cell 1
          have v10 := v1.trans (u10.mono v1.size)
          refine hK.out _ _ ?_ (fun hHeld => ?_)
          · exact bm10
          clear hK K
          (try simp only [pt_])
          refine tk (i := 11) (oi := ⟨some 23, _, _, _, _, _⟩) (v := ?v11_37) hHeld rfl ?y11_37 ?r11_37
          case y11_37 => (intro w _; first | (go_simp; done) | (go_simp; with_reducible rfl) | (with_reducible rfl))
          (try simp only [pt_])
          refine tk (i := 12) (oi := ⟨some 24, _, _, _, _, _⟩) (v := ?v12_38) hHeld rfl ?y12_38 ?r12_38
          case y12_38 => (intro w _; first | (go_simp; done) | (go_simp; with_reducible rfl) | (with_reducible rfl))
          (try simp only [pt_])
          refine tk (i := 13) (oi := ⟨some 3, _, _, _, _, _⟩) (v := ?v13_39) hHeld rfl ?y13_39 ?r13_39
          case y13_39 => (intro w _; first | (go_simp; done) | (go_simp; with_reducible rfl) | (with_reducible rfl))
          (try simp only [pt_])
          refine wpAnyH_done (by kernel_rfl) ?_ _
          refine NoPanic.normal ?_
          rotate_left 1
          exact AllReadyH.nil
          refine AllReadyH.cons (o := { dst := some 22, op := _, type := _, pos := _, after := _, guard := _ }) rfl (fun K hK => ?_) ?_
          go_simp
          refine (C1.out _).mono ?_
          rintro e w10 ⟨rfl, u10⟩
          have bm10 := bm1.below u10
          have wc10 : w10.cell? ⟨gw, 1, none⟩ = some (.string (wordB 2)) := (bw1.below u10).cell 1
          have v10 := v1.trans (u10.mono v1.size)
          refine hK.out _ _ ?_ (fun hHeld => ?_)
          · exact bm10
          clear hK K
          (try simp only [pt_])
          refine wpAnyH_ready (rs := [6]) (by kernel_rfl) (by simp) ?_
          refine AllReadyH.cons (o := { dst := some 18, op := _, type := _, pos := _, after := _, guard := _ }) rfl (fun K hK => ?_) ?_
          go_simp
          refine hK.out _ _ ?_ (fun hHeld => ?_)
          · first | exact bm10 | exact bm1
          clear hK K
          (try simp only [pt_])
          refine tk (i := 7) (oi := ⟨some 19, _, _, _, _, _⟩) (v := ?v7_40) hHeld rfl ?y7_40 ?r7_40
          case y7_40 => (intro w _; first | (go_simp; done) | (go_simp; with_reducible rfl) | (with_reducible rfl))
          (try simp only [pt_])
          refine tk (i := 11) (oi := ⟨some 23, _, _, _, _, _⟩) (v := ?v11_41) hHeld rfl ?y11_41 ?r11_41
          case y11_41 => (intro w _; first | (go_simp; done) | (go_simp; with_reducible rfl) | (with_reducible rfl))
          (try simp only [pt_])
          refine tk (i := 12) (oi := ⟨some 24, _, _, _, _, _⟩) (v := ?v12_42) hHeld rfl ?y12_42 ?r12_42
          case y12_42 => (intro w _; first | (go_simp; done) | (go_simp; with_reducible rfl) | (with_reducible rfl))
          (try simp only [pt_])
          refine tk (i := 13) (oi := ⟨some 3, _, _, _, _, _⟩) (v := ?v13_43) hHeld rfl ?y13_43 ?r13_43
          case y13_43 => (intro w _; first | (go_simp; done) | (go_simp; with_reducible rfl) | (with_reducible rfl))
          (try simp only [pt_])
          refine wpAnyH_done (by kernel_rfl) ?_ _
          refine NoPanic.normal ?_
          rotate_left 1
          exact AllReadyH.nil
          exact AllReadyH.nil
          exact AllReadyH.nil
          all_goals
            go_wp2_with fail
            go_meet
            case rel => exact ⟨by rw [HO2.out], v10⟩

        case rest => as_aux_lemma =>
          obtain ⟨rfl, hcut⟩ := hcut
          have B_m := B_m.below hcut
          have V_wc := V_w1'.trans (hcut.mono V_w1'.size)
          have S_wc := hcut.size
          clear hcut s1 s2 s3 q1 q2 q3
          have r5 : ¬ (O2.size + (ByteArray.mk #[10]).size > 9223372036854775807) := by have := HZ.out.2; omega
          have e_m := B_m.all4
          go_wp2
          clear e_m
          go_roundw
          case rel => exact ⟨k + 1, by omega, by go_num, by rw [HN.out, HT2.out 2 (by decide), HP1.out, HO2.out]; simp only [ByteArray.append_assoc]; rfl, V_wc⟩
          case measure => simp [intOf]; omega


      · have z2 := zw 3
        have wk : IntKind.i64.wrap (2 : Int) = 2 := IntWalk.i64_in _ (by omega)
        have s1 : ¬ ((wordB 3).size + (ByteArray.mk #[32]).size > 9223372036854775807) := by omega
        have s2 : ¬ ((wordB 3 ++ ByteArray.mk #[32]).size + N1.size > 9223372036854775807) := by rw [app_size]; omega
        have s3 : ¬ (O.size + (wordB 3 ++ ByteArray.mk #[32] ++ N1).size > 9223372036854775807) := by rw [app_size, app_size]; omega
        have q1 : ¬ (9223372036854775807 < (wordB 3).size + 1) := by omega
        have q2 : ¬ (9223372036854775807 < (wordB 3).size + 1 + N1.size) := by omega
        have q3 : ¬ (9223372036854775807 < O.size + ((wordB 3).size + 1 + N1.size)) := by omega
        obtain ⟨O2, hO2⟩ : ∃ x, x = O ++ (wordB 3 ++ ByteArray.mk #[32] ++ N1) := ⟨_, rfl⟩
        have hz2 : O2.size ≤ 1000 := by rw [hO2, app_size, app_size, app_size]; omega
        have HO2 := Lib.hid hO2
        have HZ := Lib.hid (And.intro z0 z1)
        clear hO2 z0 z1 z2 zw
        go_cut [3] (fun v wx => v = .string O2 ∧ Below w1'.heap.size w1' wx)

        case first => as_aux_lemma =>
          refine wp_region_noPanic ?_
          refine wp_region_held_drew (S := (fun W => Blk W (bm) 35 #[.int .i64 3, .int .i64 ka, .int .i64 kx, .int .i64 kv])) (by kernel_rfl) ?hS44 (fun hHeld => ?go44)
          case hS44 => exact B_m.drew
          refine tk (i := 0) (oi := ⟨some 12, _, _, _, _, _⟩) (v := ?v0_45) hHeld rfl ?y0_45 ?r0_45
          case y0_45 => (intro w _; first | (go_simp; done) | (go_simp; with_reducible rfl) | (with_reducible rfl))
          (try simp only [pt_])
          refine tk (i := 2) (oi := ⟨some 14, _, _, _, _, _⟩) (v := ?v2_46) hHeld rfl ?y2_46 ?r2_46
          case y2_46 => (intro w _; first | (go_simp; done) | (go_simp; with_reducible rfl) | (with_reducible rfl))
          (try simp only [pt_])
          refine tk (i := 3) (oi := ⟨some 15, _, _, _, _, _⟩) (v := ?v3_47) hHeld rfl ?y3_47 ?r3_47
          case y3_47 => (intro w qS0; have cS0 := qS0.all4; first | (go_simp; done) | (go_simp; with_reducible rfl) | (with_reducible rfl))
          (try simp only [pt_])
          refine tk (i := 4) (oi := ⟨some 16, _, _, _, _, _⟩) (v := ?v4_48) hHeld rfl ?y4_48 ?r4_48
          case y4_48 => (intro w _; first | (go_simp; done) | (go_simp; with_reducible rfl) | (with_reducible rfl))
          (try simp only [pt_])
          refine tk (i := 8) (oi := ⟨some 20, _, _, _, _, _⟩) (v := ?v8_49) hHeld rfl ?y8_49 ?r8_49
          case y8_49 => (intro w _; first | (go_simp; done) | (go_simp; with_reducible rfl) | (with_reducible rfl))
          (try simp only [pt_])
          refine tk (i := 9) (oi := ⟨some 21, _, _, _, _, _⟩) (v := ?v9_50) hHeld rfl ?y9_50 ?r9_50
          case y9_50 => (intro w qS0; have cS0 := qS0.all4; first | (go_simp; done) | (go_simp; with_reducible rfl) | (with_reducible rfl))
          (try simp only [pt_])
          refine wpAnyH_ready (rs := [1]) (by kernel_rfl) (by simp) ?_
          refine AllReadyH.cons (o := { dst := some 13, op := _, type := _, pos := _, after := _, guard := _ }) rfl (fun K hK => ?_) ?_
          go_simp
          refine (nwWords_any _).mono ?_
          rintro e w1 ⟨gw, rfl, bw1, u1⟩
          have bm1 := (Blk.drew B_m).below u1
          have wc1 : w1.cell? ⟨gw, 2, none⟩ = some (.string (wordB 3)) := bw1.cell 2
          have v1 := (Below.refl _ _).drew.trans (u1.mono (Nat.le_refl _))
          refine hK.out _ _ ?_ (fun hHeld => ?_)
          · exact bm1
          clear hK K
          (try simp only [pt_])
          refine tk (i := 5) (oi := ⟨some 17, _, _, _, _, _⟩) (v := ?v5_51) hHeld rfl ?y5_51 ?r5_51
          case y5_51 => (intro w _; first | (go_simp; done) | (go_simp; with_reducible rfl) | (with_reducible rfl))
          (try simp only [pt_])
          refine wpAnyH_ready (rs := [6, 10]) (by kernel_rfl) (by simp) ?_
          refine AllReadyH.cons (o := { dst := some 18, op := _, type := _, pos := _, after := _, guard := _ }) rfl (fun K hK => ?_) ?_
          go_simp
          refine hK.out _ _ ?_ (fun hHeld => ?_)
          · first | exact bm10 | exact bm1
          clear hK K
          (try simp only [pt_])
          refine tk (i := 7) (oi := ⟨some 19, _, _, _, _, _⟩) (v := ?v7_52) hHeld rfl ?y7_52 ?r7_52
          case y7_52 => (intro w _; first | (go_simp; done) | (go_simp; with_reducible rfl) | (with_reducible rfl))
          (try simp only [pt_])
          refine wpAnyH_ready (rs := [10]) (by kernel_rfl) (by simp) ?_
          refine AllReadyH.cons (o := { dst := some 22, op := _, type := _, pos := _, after := _, guard := _ }) rfl (fun K hK => ?_) ?_
          go_simp
          refine (C1.out _).mono ?_
          rintro e w10 ⟨rfl, u10⟩
          have bm10 := bm1.below u10
          have wc10 : w10.cell? ⟨gw, 2, none⟩ = some (.string (wordB 3)) := (bw1.below u10).cell 2
          have v10 := v1.trans (u10.mono v1.size)
          refine hK.out _ _ ?_ (fun hHeld => ?_)
          · exact bm10
          clear hK K
          (try simp only [pt_])
          refine tk (i := 11) (oi := ⟨some 23, _, _, _, _, _⟩) (v := ?v11_53) hHeld rfl ?y11_53 ?r11_53
          case y11_53 => (intro w _; first | (go_simp; done) | (go_simp; with_reducible rfl) | (with_reducible rfl))
          (try simp only [pt_])
          refine tk (i := 12) (oi := ⟨some 24, _, _, _, _, _⟩) (v := ?v12_54) hHeld rfl ?y12_54 ?r12_54
          case y12_54 => (intro w _; first | (go_simp; done) | (go_simp; with_reducible rfl) | (with_reducible rfl))
          (try simp only [pt_])
          refine tk (i := 13) (oi := ⟨some 3, _, _, _, _, _⟩) (v := ?v13_55) hHeld rfl ?y13_55 ?r13_55
          case y13_55 => (intro w _; first | (go_simp; done) | (go_simp; with_reducible rfl) | (with_reducible rfl))
          (try simp only [pt_])
          refine wpAnyH_done (by kernel_rfl) ?_ _
          refine NoPanic.normal ?_
          rotate_left 1
          exact AllReadyH.nil
          refine AllReadyH.cons (o := { dst := some 22, op := _, type := _, pos := _, after := _, guard := _ }) rfl (fun K hK => ?_) ?_
          go_simp
          refine (C1.out _).mono ?_
          rintro e w10 ⟨rfl, u10⟩
          have bm10 := bm1.below u10
          have wc10 : w10.cell? ⟨gw, 2, none⟩ = some (.string (wordB 3)) := (bw1.below u10).cell 2
          have v10 := v1.trans (u10.mono v1.size)
          refine hK.out _ _ ?_ (fun hHeld => ?_)
          · exact bm10
          clear hK K
          (try simp only [pt_])
          refine wpAnyH_ready (rs := [6]) (by kernel_rfl) (by simp) ?_
          refine AllReadyH.cons (o := { dst := some 18, op := _, type := _, pos := _, after := _, guard := _ }) rfl (fun K hK => ?_) ?_
          go_simp
          refine hK.out _ _ ?_ (fun hHeld => ?_)
          · first | exact bm10 | exact bm1
          clear hK K
          (try simp only [pt_])
          refine tk (i := 7) (oi := ⟨some 19, _, _, _, _, _⟩) (v := ?v7_56) hHeld rfl ?y7_56 ?r7_56
          case y7_56 => (intro w _; first | (go_simp; done) | (go_simp; with_reducible rfl) | (with_reducible rfl))
          (try simp only [pt_])
          refine tk (i := 11) (oi := ⟨some 23, _, _, _, _, _⟩) (v := ?v11_57) hHeld rfl ?y11_57 ?r11_57
          case y11_57 => (intro w _; first | (go_simp; done) | (go_simp; with_reducible rfl) | (with_reducible rfl))
          (try simp only [pt_])
          refine tk (i := 12) (oi := ⟨some 24, _, _, _, _, _⟩) (v := ?v12_58) hHeld rfl ?y12_58 ?r12_58
          case y12_58 => (intro w _; first | (go_simp; done) | (go_simp; with_reducible rfl) | (with_reducible rfl))
          (try simp only [pt_])
          refine tk (i := 13) (oi := ⟨some 3, _, _, _, _, _⟩) (v := ?v13_59) hHeld rfl ?y13_59 ?r13_59
          case y13_59 => (intro w _; first | (go_simp; done) | (go_simp; with_reducible rfl) | (with_reducible rfl))
          (try simp only [pt_])
          refine wpAnyH_done (by kernel_rfl) ?_ _
          refine NoPanic.normal ?_
          rotate_left 1
          exact AllReadyH.nil
          exact AllReadyH.nil
          exact AllReadyH.nil
          all_goals
            go_wp2_with fail
            go_meet
            case rel => exact ⟨by rw [HO2.out], v10⟩

        case rest => as_aux_lemma =>
          obtain ⟨rfl, hcut⟩ := hcut
          have B_m := B_m.below hcut
          have V_wc := V_w1'.trans (hcut.mono V_w1'.size)
          have S_wc := hcut.size
          clear hcut s1 s2 s3 q1 q2 q3
          have r5 : ¬ (O2.size + (ByteArray.mk #[10]).size > 9223372036854775807) := by have := HZ.out.2; omega
          have e_m := B_m.all4
          go_wp2
          clear e_m
          go_roundw
          case rel => exact ⟨k + 1, by omega, by go_num, by rw [HN.out, HT2.out 3 (by decide), HP1.out, HO2.out]; simp only [ByteArray.append_assoc]; rfl, V_wc⟩
          case measure => simp [intOf]; omega


      · have z2 := zw 4
        have wk : IntKind.i64.wrap (3 : Int) = 3 := IntWalk.i64_in _ (by omega)
        have s1 : ¬ ((wordB 4).size + (ByteArray.mk #[32]).size > 9223372036854775807) := by omega
        have s2 : ¬ ((wordB 4 ++ ByteArray.mk #[32]).size + N1.size > 9223372036854775807) := by rw [app_size]; omega
        have s3 : ¬ (O.size + (wordB 4 ++ ByteArray.mk #[32] ++ N1).size > 9223372036854775807) := by rw [app_size, app_size]; omega
        have q1 : ¬ (9223372036854775807 < (wordB 4).size + 1) := by omega
        have q2 : ¬ (9223372036854775807 < (wordB 4).size + 1 + N1.size) := by omega
        have q3 : ¬ (9223372036854775807 < O.size + ((wordB 4).size + 1 + N1.size)) := by omega
        obtain ⟨O2, hO2⟩ : ∃ x, x = O ++ (wordB 4 ++ ByteArray.mk #[32] ++ N1) := ⟨_, rfl⟩
        have hz2 : O2.size ≤ 1000 := by rw [hO2, app_size, app_size, app_size]; omega
        have HO2 := Lib.hid hO2
        have HZ := Lib.hid (And.intro z0 z1)
        clear hO2 z0 z1 z2 zw
        go_cut [3] (fun v wx => v = .string O2 ∧ Below w1'.heap.size w1' wx)

        case first => as_aux_lemma =>
          refine wp_region_noPanic ?_
          refine wp_region_held_drew (S := (fun W => Blk W (bm) 35 #[.int .i64 4, .int .i64 ka, .int .i64 kx, .int .i64 kv])) (by kernel_rfl) ?hS60 (fun hHeld => ?go60)
          case hS60 => exact B_m.drew
          refine tk (i := 0) (oi := ⟨some 12, _, _, _, _, _⟩) (v := ?v0_61) hHeld rfl ?y0_61 ?r0_61
          case y0_61 => (intro w _; first | (go_simp; done) | (go_simp; with_reducible rfl) | (with_reducible rfl))
          (try simp only [pt_])
          refine tk (i := 2) (oi := ⟨some 14, _, _, _, _, _⟩) (v := ?v2_62) hHeld rfl ?y2_62 ?r2_62
          case y2_62 => (intro w _; first | (go_simp; done) | (go_simp; with_reducible rfl) | (with_reducible rfl))
          (try simp only [pt_])
          refine tk (i := 3) (oi := ⟨some 15, _, _, _, _, _⟩) (v := ?v3_63) hHeld rfl ?y3_63 ?r3_63
          case y3_63 => (intro w qS0; have cS0 := qS0.all4; first | (go_simp; done) | (go_simp; with_reducible rfl) | (with_reducible rfl))
          (try simp only [pt_])
          refine tk (i := 4) (oi := ⟨some 16, _, _, _, _, _⟩) (v := ?v4_64) hHeld rfl ?y4_64 ?r4_64
          case y4_64 => (intro w _; first | (go_simp; done) | (go_simp; with_reducible rfl) | (with_reducible rfl))
          (try simp only [pt_])
          refine tk (i := 8) (oi := ⟨some 20, _, _, _, _, _⟩) (v := ?v8_65) hHeld rfl ?y8_65 ?r8_65
          case y8_65 => (intro w _; first | (go_simp; done) | (go_simp; with_reducible rfl) | (with_reducible rfl))
          (try simp only [pt_])
          refine tk (i := 9) (oi := ⟨some 21, _, _, _, _, _⟩) (v := ?v9_66) hHeld rfl ?y9_66 ?r9_66
          case y9_66 => (intro w qS0; have cS0 := qS0.all4; first | (go_simp; done) | (go_simp; with_reducible rfl) | (with_reducible rfl))
          (try simp only [pt_])
          refine wpAnyH_ready (rs := [1]) (by kernel_rfl) (by simp) ?_
          refine AllReadyH.cons (o := { dst := some 13, op := _, type := _, pos := _, after := _, guard := _ }) rfl (fun K hK => ?_) ?_
          go_simp
          refine (nwWords_any _).mono ?_
          rintro e w1 ⟨gw, rfl, bw1, u1⟩
          have bm1 := (Blk.drew B_m).below u1
          have wc1 : w1.cell? ⟨gw, 3, none⟩ = some (.string (wordB 4)) := bw1.cell 3
          have v1 := (Below.refl _ _).drew.trans (u1.mono (Nat.le_refl _))
          refine hK.out _ _ ?_ (fun hHeld => ?_)
          · exact bm1
          clear hK K
          (try simp only [pt_])
          refine tk (i := 5) (oi := ⟨some 17, _, _, _, _, _⟩) (v := ?v5_67) hHeld rfl ?y5_67 ?r5_67
          case y5_67 => (intro w _; first | (go_simp; done) | (go_simp; with_reducible rfl) | (with_reducible rfl))
          (try simp only [pt_])
          refine wpAnyH_ready (rs := [6, 10]) (by kernel_rfl) (by simp) ?_
          refine AllReadyH.cons (o := { dst := some 18, op := _, type := _, pos := _, after := _, guard := _ }) rfl (fun K hK => ?_) ?_
          go_simp
          refine hK.out _ _ ?_ (fun hHeld => ?_)
          · first | exact bm10 | exact bm1
          clear hK K
          (try simp only [pt_])
          refine tk (i := 7) (oi := ⟨some 19, _, _, _, _, _⟩) (v := ?v7_68) hHeld rfl ?y7_68 ?r7_68
          case y7_68 => (intro w _; first | (go_simp; done) | (go_simp; with_reducible rfl) | (with_reducible rfl))
          (try simp only [pt_])
          refine wpAnyH_ready (rs := [10]) (by kernel_rfl) (by simp) ?_
          refine AllReadyH.cons (o := { dst := some 22, op := _, type := _, pos := _, after := _, guard := _ }) rfl (fun K hK => ?_) ?_
          go_simp
          refine (C1.out _).mono ?_
          rintro e w10 ⟨rfl, u10⟩
          have bm10 := bm1.below u10
          have wc10 : w10.cell? ⟨gw, 3, none⟩ = some (.string (wordB 4)) := (bw1.below u10).cell 3
          have v10 := v1.trans (u10.mono v1.size)
          refine hK.out _ _ ?_ (fun hHeld => ?_)
          · exact bm10
          clear hK K
          (try simp only [pt_])
          refine tk (i := 11) (oi := ⟨some 23, _, _, _, _, _⟩) (v := ?v11_69) hHeld rfl ?y11_69 ?r11_69
          case y11_69 => (intro w _; first | (go_simp; done) | (go_simp; with_reducible rfl) | (with_reducible rfl))
          (try simp only [pt_])
          refine tk (i := 12) (oi := ⟨some 24, _, _, _, _, _⟩) (v := ?v12_70) hHeld rfl ?y12_70 ?r12_70
          case y12_70 => (intro w _; first | (go_simp; done) | (go_simp; with_reducible rfl) | (with_reducible rfl))
          (try simp only [pt_])
          refine tk (i := 13) (oi := ⟨some 3, _, _, _, _, _⟩) (v := ?v13_71) hHeld rfl ?y13_71 ?r13_71
          case y13_71 => (intro w _; first | (go_simp; done) | (go_simp; with_reducible rfl) | (with_reducible rfl))
          (try simp only [pt_])
          refine wpAnyH_done (by kernel_rfl) ?_ _
          refine NoPanic.normal ?_
          rotate_left 1
          exact AllReadyH.nil
          refine AllReadyH.cons (o := { dst := some 22, op := _, type := _, pos := _, after := _, guard := _ }) rfl (fun K hK => ?_) ?_
          go_simp
          refine (C1.out _).mono ?_
          rintro e w10 ⟨rfl, u10⟩
          have bm10 := bm1.below u10
          have wc10 : w10.cell? ⟨gw, 3, none⟩ = some (.string (wordB 4)) := (bw1.below u10).cell 3
          have v10 := v1.trans (u10.mono v1.size)
          refine hK.out _ _ ?_ (fun hHeld => ?_)
          · exact bm10
          clear hK K
          (try simp only [pt_])
          refine wpAnyH_ready (rs := [6]) (by kernel_rfl) (by simp) ?_
          refine AllReadyH.cons (o := { dst := some 18, op := _, type := _, pos := _, after := _, guard := _ }) rfl (fun K hK => ?_) ?_
          go_simp
          refine hK.out _ _ ?_ (fun hHeld => ?_)
          · first | exact bm10 | exact bm1
          clear hK K
          (try simp only [pt_])
          refine tk (i := 7) (oi := ⟨some 19, _, _, _, _, _⟩) (v := ?v7_72) hHeld rfl ?y7_72 ?r7_72
          case y7_72 => (intro w _; first | (go_simp; done) | (go_simp; with_reducible rfl) | (with_reducible rfl))
          (try simp only [pt_])
          refine tk (i := 11) (oi := ⟨some 23, _, _, _, _, _⟩) (v := ?v11_73) hHeld rfl ?y11_73 ?r11_73
          case y11_73 => (intro w _; first | (go_simp; done) | (go_simp; with_reducible rfl) | (with_reducible rfl))
          (try simp only [pt_])
          refine tk (i := 12) (oi := ⟨some 24, _, _, _, _, _⟩) (v := ?v12_74) hHeld rfl ?y12_74 ?r12_74
          case y12_74 => (intro w _; first | (go_simp; done) | (go_simp; with_reducible rfl) | (with_reducible rfl))
          (try simp only [pt_])
          refine tk (i := 13) (oi := ⟨some 3, _, _, _, _, _⟩) (v := ?v13_75) hHeld rfl ?y13_75 ?r13_75
          case y13_75 => (intro w _; first | (go_simp; done) | (go_simp; with_reducible rfl) | (with_reducible rfl))
          (try simp only [pt_])
          refine wpAnyH_done (by kernel_rfl) ?_ _
          refine NoPanic.normal ?_
          rotate_left 1
          exact AllReadyH.nil
          exact AllReadyH.nil
          exact AllReadyH.nil
          all_goals
            go_wp2_with fail
            go_meet
            case rel => exact ⟨by rw [HO2.out], v10⟩

        case rest => as_aux_lemma =>
          obtain ⟨rfl, hcut⟩ := hcut
          have B_m := B_m.below hcut
          have V_wc := V_w1'.trans (hcut.mono V_w1'.size)
          have S_wc := hcut.size
          clear hcut s1 s2 s3 q1 q2 q3
          have r5 : ¬ (O2.size + (ByteArray.mk #[10]).size > 9223372036854775807) := by have := HZ.out.2; omega
          have e_m := B_m.all4
          go_wp2
          clear e_m
          go_roundw
          case rel => exact ⟨k + 1, by omega, by go_num, by rw [HN.out, HT2.out 4 (by decide), HP1.out, HO2.out]; simp only [ByteArray.append_assoc]; rfl, V_wc⟩
          case measure => simp [intOf]; omega


    · obtain rfl : n = k := by omega
      go_wp2
      go_ret
      exact ⟨rfl, hb⟩
end Go.Proofs.YtjndhgjmnoiegaaDoor
