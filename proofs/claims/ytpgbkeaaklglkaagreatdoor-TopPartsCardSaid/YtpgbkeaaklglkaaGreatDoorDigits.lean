

/- digest.Unhex and what digits say; Hex and Unhex undo one another. -/
import Derived.Test.YtpgbkeaaklglkaaGreatDoorTagged
namespace Go.Proofs.YtpgbkeaaklglkaaGreatDoor.Q
open Go.RowKit Go.Proofs.YtpgbkeaaklglkaaGreatDoorW.PrintWords Go.Proofs.YtpgbkeaaklglkaaGreatDoorW.PrintLast Go.Proofs.YtpgbkeaaklglkaaGreatDoorW.PrintMore
set_option linter.unusedVariables false
set_option linter.unusedSimpArgs false
set_option maxHeartbeats 10000000
set_option maxRecDepth 100000
def isD (c : Int) : Bool := (decide (48 ≤ c) && decide (c ≤ 57)) || (decide (97 ≤ c) && decide (c ≤ 102))
def hv (c : Int) : Int := if 48 ≤ c ∧ c ≤ 57 then c - 48 else if 97 ≤ c ∧ c ≤ 102 then c - 87 else 0
theorem hv_range (c : Int) : 0 ≤ hv c ∧ hv c < 16 := by unfold hv; split <;> (try split) <;> omega
theorem half_eq (c : Int) (h0 : 0 ≤ c) (h1 : c < 256) : digest_half.f 1 c = some (hv c, isD c) := by
  obtain ⟨n, rfl⟩ := Int.eq_ofNat_of_zero_le h0
  have h : ∀ x : Fin 256, digest_half.f 1 ((x.val : Nat) : Int) = some (hv ((x.val : Nat) : Int), isD ((x.val : Nat) : Int)) := by decide +kernel
  exact h ⟨n, by omega⟩
theorem or8 (a b : Int) (ha : 0 ≤ a ∧ a < 16) (hb : 0 ≤ b ∧ b < 16) : Go.bits .or .u8 (a * 16) b = 16 * a + b := by
  obtain ⟨n, rfl⟩ := Int.eq_ofNat_of_zero_le ha.1
  obtain ⟨m, rfl⟩ := Int.eq_ofNat_of_zero_le hb.1
  have h : ∀ x y : Fin 16, Go.bits .or .u8 (((x.val : Nat) : Int) * 16) ((y.val : Nat) : Int) = 16 * ((x.val : Nat) : Int) + ((y.val : Nat) : Int) := by decide
  exact h ⟨n, by omega⟩ ⟨m, by omega⟩
def valsL (t : ByteArray) (n : Nat) : List Int := (List.range n).map fun j => 16 * hv (bt t ((2 * j : Nat) : Int)) + hv (bt t ((2 * j + 1 : Nat) : Int))
theorem valsL_succ (t : ByteArray) (n : Nat) : valsL t (n + 1) = valsL t n ++ [16 * hv (bt t ((2 * n : Nat) : Int)) + hv (bt t ((2 * n + 1 : Nat) : Int))] := by
  unfold valsL
  rw [List.range_succ, List.map_append]
  rfl
theorem valsL_len (t : ByteArray) (n : Nat) : (valsL t n).length = n := by simp [valsL]
def okHex (t : ByteArray) : Prop := t.size % 2 = 0 ∧ ∀ j, j < t.size → isD (bt t (j : Int)) = true
open Classical in
noncomputable def unhexF (t : ByteArray) : ByteArray × Int := if okHex t then (strOfNums (valsL t (t.size / 2)), 0) else (⟨#[]⟩, 3)
theorem unhex_ok {t : ByteArray} (h : okHex t) : unhexF t = (strOfNums (valsL t (t.size / 2)), 0) := by unfold unhexF; rw [if_pos h]
theorem unhex_bad {t : ByteArray} (h : ¬ okHex t) : unhexF t = (⟨#[]⟩, 3) := by unfold unhexF; rw [if_neg h]
theorem digest_Unhex.calls (t : ByteArray) (w : World) (hl : t.size ≤ 140737488351232) :
    Calls Tryz.prog 49 #[.string t] w fun e w' => e = .returned (.tuple #[.string (unhexF t).1, .int .i64 (unhexF t).2]) ∧ Below w.heap.size w w' := by
  have HL := Aside0.mk hl
  by_cases hodd : t.size % 2 = 1
  · have hno : ¬ okHex t := fun h => by have := h.1; omega
    rw [unhex_bad hno]
    have q : (((t.size : Int) % 2) == 1) = true := beq_iff_eq.mpr (by omega)
    have q2 : ((t.size : Int) % 2 = 1) = True := eq_true (by omega)
    clear hl hodd hno
    go_enter Tryz.func49, Tryz.ntmps49
    go_wp2
    go_ret2
    exact ⟨rfl, Below.refl _ _⟩
  have q : (((t.size : Int) % 2) == 1) = false := beq_eq_false_iff_ne.mpr (by omega)
  have q2 : ((t.size : Int) % 2 = 1) = False := eq_false (by omega)
  obtain ⟨c, hc⟩ : ∃ c : Nat, t.size = 2 * c := ⟨t.size / 2, by omega⟩
  have h2 : ((t.size : Int)).tdiv 2 = (c : Int) := by rw [Int.tdiv_eq_ediv_of_nonneg (by omega)]; omega
  have h3 : (t.size : Int) / 2 = (c : Int) := by omega
  obtain ⟨i0, hi0, hzz⟩ := Option.map_eq_some_iff.1 info5
  simp only [Prod.mk.injEq] at hzz
  obtain ⟨hz0, hz1, hz2⟩ := hzz
  obtain ⟨w1, hrun, hown, hgr⟩ := run_make_own (P := Tryz.prog) w w.heap.size 72 5 i0 (.int .u8 0) 1 Tryz.underlying72 hi0 hz0 hz1 .i64 .i64 c (by rw [hz2]; omega) (by simp only [maxLen]; omega) (Nat.le_refl _)
  have R1 : Aside0 ((Kd.int .u8).R 5 w1 w.heap.size (fun _ => True) (.slice (some ⟨w.heap.size, 0, none⟩) 0 c) (valsL t 0)) := ⟨Kd.R_of_own (h1 := fun _ => rfl) hown (fun _ _ => trivial)⟩
  have B1 : Aside0 (Below w.heap.size w w1) := ⟨(Below.refl _ _).grown hgr (Nat.le_refl _) (fun k hk => by cases hk)⟩
  have HC := Aside0.mk hc
  have HO := Aside0.mk hodd
  have hwc : wrap64 (c : Int) = (c : Int) := IntWalk.wrap64_in _ (by omega)
  clear hown hgr hl hodd hc
  go_enter Tryz.func49, Tryz.ntmps49
  go_wp2_with (fail)
  go_loopg [4, 5] (c + 1) (fun kq v4 v5 w' => ∃ n : Nat, v5 = .int .i64 ((2 * n : Nat) : Int) ∧ Aside0 (n + kq = c + 1 ∧ n ≤ c) ∧ Aside0 (∀ j, j < 2 * n → isD (bt t (j : Int)) = true) ∧ Aside0 ((Kd.int .u8).R 5 w' w.heap.size (fun _ => True) v4 (valsL t n)) ∧ Aside0 (Below w.heap.size w w'))
  case atStart => exact ⟨0, rfl, ⟨by omega, by omega⟩, ⟨fun j hj => by omega⟩, R1, B1⟩
  case round =>
    clear R1 B1 hrun h2 h3 hwc
    obtain ⟨n, rfl, HN, HD, R, B⟩ := hrel
    cases gk with
    | zero => have := HN.out; omega
    | succ k1 =>
      obtain ⟨i, hi⟩ : ∃ i : Nat, i = 2 * n := ⟨_, rfl⟩
      rw [← hi]
      by_cases hn : n < c
      · have hlt : ((i : Int) < (t.size : Int)) = True := eq_true (by have := HC.out; omega)
        obtain ⟨i1, hi1⟩ : ∃ j : Nat, j = i + 1 := ⟨_, rfl⟩
        have e1 : IntKind.i64.wrap ((i : Int) + 1) = (i1 : Int) := (i64_w _).trans ((IntWalk.wrap64_in _ (by have := HC.out; have := HL.out; omega)).trans (by omega))
        have hb0 := str_at t i (by have := HC.out; omega)
        have hb1 := str_at t i1 (by have := HC.out; omega)
        have hr0 := bt_range t i
        have hr1 := bt_range t i1
        obtain ⟨a, ya⟩ : ∃ a : Int, a = bt t i := ⟨_, rfl⟩
        obtain ⟨b, yb⟩ : ∃ b : Int, b = bt t i1 := ⟨_, rfl⟩
        rw [← ya] at hb0 hr0
        rw [← yb] at hb1 hr1
        have HA := Aside0.mk (half_eq a (by omega) (by omega))
        have HBb := Aside0.mk (half_eq b (by omega) (by omega))
        have YA := Aside0.mk ya
        have YB := Aside0.mk yb
        have HI := Aside0.mk hi
        have HI1 := Aside0.mk hi1
        clear ya yb hr0 hr1 hi hi1
        go_wp2_with (fail)
        refine (digest_half.calls 1 a (hv a) (isD a) wr HA.out).mono ?_
        rintro e w2 ⟨rfl, ⟨n1, rfl⟩⟩
        go_wp2_with (fail)
        refine (digest_half.calls 1 b (hv b) (isD b) _ HBb.out).mono ?_
        rintro e w3 ⟨rfl, ⟨n2, rfl⟩⟩
        by_cases da : isD a = true
        · by_cases db : isD b = true
          · have ho := or8 (hv a) (hv b) (hv_range a) (hv_range b)
            have hra := hv_range a
            have hrb := hv_range b
            go_wp2_with ((with_reducible refine gate_dst (N := 51) rfl ?_); refine HaltD.out ?_)
            refine ⟨?_⟩
            have R2 : Aside0 ((Kd.int .u8).R 5 (wr.drewN (n1 + n2)) w.heap.size (fun _ => True) u4 (valsL t n)) := ⟨Kd.R_drewN R.out _⟩
            have B2 : Aside0 (Below w.heap.size w (wr.drewN (n1 + n2))) := ⟨pw_below_drewN B.out _⟩
            clear R B
            rw [show wr.heap.size = (wr.drewN (n1 + n2)).heap.size from rfl]
            generalize wr.drewN (n1 + n2) = w4 at R2 B2 ⊢
            refine app_lit (w0 := w) (W := w4) w.heap.size rfl (.tmp 45) (.tmp 50) rfl _ (valsL t n) [16 * hv a + hv b] ?e1 ?e2 R2.out B2.out (by rw [valsL_len]; have := HC.out; have := HL.out; simp only [List.length_cons, List.length_nil]; omega) B2.out.size (by simp) ?_
            case e1 => rfl
            case e2 => rfl
            intro v5 w5 hR hB
            have R5 := Aside0.mk hR
            have B5 := Aside0.mk hB
            clear hR hB R2 B2
            go_wp2
            go_roundg k1
            case measure => have := HN.out; omega
            case rel => exact ⟨n + 1, by have := HI.out; have h1 := HL.out; have h2 := HC.out; rw [IntWalk.wrap64_in _ (by omega)]; congr 1; omega, ⟨by have := HN.out; omega, by omega⟩, ⟨fun j hj => by
              have h1 := HI.out
              have h2 := HI1.out
              by_cases h3 : j < 2 * n
              · exact HD.out j h3
              · by_cases h4 : j = i
                · rw [h4, ← YA.out]; exact da
                · rw [show j = i1 by omega, ← YB.out]; exact db⟩, ⟨by rw [valsL_succ, ← HI.out, ← YA.out, ← HI1.out, ← YB.out]; exact R5.out⟩, B5⟩
          · have db' : isD b = false := by simpa using db
            have hno : ¬ okHex t := fun h => db (by rw [YB.out]; exact h.2 i1 (by have := HC.out; have := HI.out; have := HI1.out; omega))
            have HNO := Aside0.mk hno
            clear hno
            go_wp2
            go_ret2
            exact ⟨by rw [unhex_bad HNO.out]; rfl, pw_below_drewN B.out _⟩
        · have da' : isD a = false := by simpa using da
          have hno : ¬ okHex t := fun h => da (by rw [YA.out]; exact h.2 i (by have := HC.out; have := HI.out; omega))
          have HNO := Aside0.mk hno
          clear hno
          go_wp2
          go_ret2
          exact ⟨by rw [unhex_bad HNO.out]; rfl, pw_below_drewN B.out _⟩
      · obtain rfl : n = c := by have := HN.out; omega
        have hlt : ((i : Int) < (t.size : Int)) = False := eq_false (by have := HC.out; omega)
        have hconv := own_string (P := Tryz.prog) Tryz.underlying72 Tryz.underlying5 Tryz.underlying9 (Kd.own_of_R R.out)
        have hok : okHex t := ⟨by have := HC.out; omega, fun j hj => HD.out j (by have := HC.out; omega)⟩
        have HOK := Aside0.mk hok
        clear hok hi
        go_wp2
        go_ret2
        exact ⟨by rw [unhex_ok HOK.out, show t.size / 2 = n by have := HC.out; omega]; rfl, B.out⟩
theorem dig_eq (d : Int) (h0 : 0 ≤ d) (h1 : d < 16) : (if d < 10 then (48 + d) % 256 else (87 + d) % 256) = dig d := by
  unfold dig
  split <;> omega
theorem refHex_two (s : ByteArray) (x3 : List Int) (n : Nat) (hn : (n : Int) < 9000000000000000000) (p q : Int) (hp : 0 ≤ p ∧ p < 16) (hq : 0 ≤ q ∧ q < 16) (hl : x3.length ≤ 140737488355320) (k : Nat) :
    stowageref03_Hex.l1 (k + 3) s x3 n [p, q] 2 0 = stowageref03_Hex.l0 k s (x3 ++ [dig p, dig q]) ((n + 1 : Nat) : Int) := by
  have r0 : rd [p, q] 0 = p := rfl
  have r1 : rd [p, q] 1 = q := rfl
  have w0 : wrap64 (0 + 1) = 1 := IntWalk.wrap64_in _ (by omega)
  have w1 : wrap64 (1 + 1) = 2 := IntWalk.wrap64_in _ (by omega)
  have dp := dig_eq p hp.1 hp.2
  have dq := dig_eq q hq.1 hq.2
  have hl1 : (x3 ++ [dig p]).length < 140737488355328 := by simp; omega
  have step1 : stowageref03_Hex.l1 (k + 3) s x3 n [p, q] 2 0 = stowageref03_Hex.l1 (k + 2) s (x3 ++ [dig p]) n [p, q] 2 1 := by
    conv => lhs; rw [stowageref03_Hex.l1]
    rw [if_pos (by omega), if_pos (by omega), if_pos (by simp), r0, w0]
    by_cases h : p < 10
    · rw [if_pos h] at dp
      rw [if_pos h, if_pos (by omega), dp]
    · rw [if_neg h] at dp
      rw [if_neg h, if_pos (by omega), dp]
  have step2 : stowageref03_Hex.l1 (k + 2) s (x3 ++ [dig p]) n [p, q] 2 1 = stowageref03_Hex.l1 (k + 1) s (x3 ++ [dig p] ++ [dig q]) n [p, q] 2 2 := by
    conv => lhs; rw [stowageref03_Hex.l1]
    rw [if_pos (by omega), if_pos (by omega), if_pos (by simp), r1, w1]
    by_cases h : q < 10
    · rw [if_pos h] at dq
      rw [if_pos h, if_pos hl1, dq]
    · rw [if_neg h] at dq
      rw [if_neg h, if_pos hl1, dq]
  rw [step1, step2, stowageref03_Hex.l1, if_neg (by omega), IntWalk.wrap64_in _ (by omega), List.append_assoc]
  rfl
theorem refHex_l0 (s : ByteArray) (hs : s.size ≤ 70000000000000) : ∀ (d n k : Nat), n + d = s.size → 4 * d < k → stowageref03_Hex.l0 k s (hexL ((bytesOf s).take n)) (n : Int) = some (hexF s)
  | 0, n, k, hn, hk => by
    obtain ⟨k, rfl⟩ : ∃ k', k = k' + 1 := ⟨k - 1, by omega⟩
    obtain rfl : n = s.size := by omega
    rw [stowageref03_Hex.l0, if_neg (by omega), List.take_of_length_le (by rw [bytesOf_length]; omega)]
    rfl
  | d + 1, n, k, hn, hk => by
    obtain ⟨k, rfl⟩ : ∃ k', k = k' + 4 := ⟨k - 4, by omega⟩
    have ih := refHex_l0 s hs d (n + 1) k (by omega) (by omega)
    have hr := bt_range s n
    have e1 : Int.tdiv (bt s n) 16 % 256 = bt s n / 16 := by rw [Int.tdiv_eq_ediv_of_nonneg hr.1]; omega
    have e2 : Int.tmod (bt s n) 16 = bt s n % 16 := Int.tmod_eq_emod_of_nonneg hr.1
    have hl := hexL_len ((bytesOf s).take n)
    rw [List.length_take, bytesOf_length] at hl
    rw [stowageref03_Hex.l0, if_pos (by omega), if_pos (by omega), Option.bind_some, e1, e2]
    have h2 := refHex_two s (hexL ((bytesOf s).take n)) n (by omega) (bt s n / 16) (bt s n % 16) (by omega) (by omega) (by omega) k
    rw [← ih, hexL_succ _ _ (by rw [bytesOf_length]; omega), bytesOf_bt s n (by omega), ← h2]
    rfl
theorem refHex_eq (s : ByteArray) (hs : s.size ≤ 70000000000000) (k : Nat) (hk : 4 * s.size < k) : stowageref03_Hex.f k s = some (hexF s) :=
  refHex_l0 s hs s.size 0 k (by omega) hk
theorem str_bytes (t : ByteArray) : strOfNums (bytesOf t) = t := by
  unfold strOfNums bytesOf
  apply ByteArray.ext
  apply Array.ext'
  simp only [List.map_map]
  conv => rhs; rw [← List.map_id t.data.toList]
  apply List.map_congr_left
  intro x _
  simp
theorem dig_ok : ∀ d : Int, 0 ≤ d → d < 16 → isD (dig d) = true ∧ hv (dig d) = d ∧ 0 ≤ dig d ∧ dig d < 256 := by
  intro d h0 h1
  obtain ⟨n, rfl⟩ := Int.eq_ofNat_of_zero_le h0
  have h : ∀ x : Fin 16, isD (dig ((x.val : Nat) : Int)) = true ∧ hv (dig ((x.val : Nat) : Int)) = ((x.val : Nat) : Int) ∧ 0 ≤ dig ((x.val : Nat) : Int) ∧ dig ((x.val : Nat) : Int) < 256 := by decide +kernel
  exact h ⟨n, by omega⟩
theorem hexL_get : ∀ (xs : List Int) (n : Nat), n < xs.length → (hexL xs).getD (2 * n) 0 = dig (xs.getD n 0 / 16) ∧ (hexL xs).getD (2 * n + 1) 0 = dig (xs.getD n 0 % 16)
  | [], n, h => by simp at h
  | x :: xs, 0, _ => ⟨rfl, rfl⟩
  | x :: xs, n + 1, h => by
    have ih := hexL_get xs n (by simpa using h)
    have e : hexL (x :: xs) = dig (x / 16) :: dig (x % 16) :: hexL xs := rfl
    rw [e, show 2 * (n + 1) = 2 * n + 1 + 1 by omega, List.getD_cons_succ, List.getD_cons_succ, List.getD_cons_succ, List.getD_cons_succ, List.getD_cons_succ]
    exact ih
theorem hexL_in {xs : List Int} (h : InB xs) : InB (hexL xs) := fun x hx => by
  obtain ⟨y, hy, hxy⟩ := List.mem_flatMap.1 hx
  have hr := h y hy
  simp only [List.mem_cons, List.not_mem_nil, or_false] at hxy
  rcases hxy with rfl | rfl
  · exact (dig_ok (y / 16) (by omega) (by omega)).2.2
  · exact (dig_ok (y % 16) (by omega) (by omega)).2.2
theorem bytes_hex (s : ByteArray) : bytesOf (hexF s) = hexL (bytesOf s) := bytes_str (hexL_in (bytes_in s))
theorem hex_size (s : ByteArray) : (hexF s).size = 2 * s.size := by unfold hexF; rw [strOfNums_size, hexL_len, bytesOf_length]
theorem bt_hex (s : ByteArray) (n : Nat) (h : n < s.size) : bt (hexF s) ((2 * n : Nat) : Int) = dig (bt s n / 16) ∧ bt (hexF s) ((2 * n + 1 : Nat) : Int) = dig (bt s n % 16) := by
  have hs := hex_size s
  have hg := hexL_get (bytesOf s) n (by rw [bytesOf_length]; exact h)
  rw [← bytes_hex, bytesOf_bt s n h, bytesOf_bt (hexF s) (2 * n) (by omega), bytesOf_bt (hexF s) (2 * n + 1) (by omega)] at hg
  exact hg
theorem hex_ok (s : ByteArray) : okHex (hexF s) := by
  have hs := hex_size s
  refine ⟨by omega, fun j hj => ?_⟩
  have hn : j / 2 < s.size := by omega
  have hb := bt_hex s (j / 2) hn
  have hr := bt_range s ((j / 2 : Nat) : Int)
  by_cases he : j % 2 = 0
  · rw [show j = 2 * (j / 2) by omega, hb.1]
    exact (dig_ok _ (by omega) (by omega)).1
  · rw [show j = 2 * (j / 2) + 1 by omega, hb.2]
    exact (dig_ok _ (by omega) (by omega)).1
theorem vals_hex (s : ByteArray) : ∀ n, n ≤ s.size → valsL (hexF s) n = (bytesOf s).take n
  | 0, _ => rfl
  | n + 1, h => by
    have hb := bt_hex s n (by omega)
    have hr := bt_range s ((n : Nat) : Int)
    have hlen : n < (bytesOf s).length := by rw [bytesOf_length]; omega
    rw [valsL_succ, vals_hex s n (by omega), hb.1, hb.2, (dig_ok _ (by omega) (by omega)).2.1, (dig_ok _ (by omega) (by omega)).2.1, List.take_add_one, List.getElem?_eq_getElem hlen]
    have he := bytesOf_bt s n (by omega)
    rw [List.getD_eq_getElem?_getD, List.getElem?_eq_getElem hlen] at he
    simp only [Option.getD_some] at he
    rw [he]
    simp only [Option.toList]
    congr 2
    omega
theorem unhex_hex (s : ByteArray) : unhexF (hexF s) = (s, 0) := by
  rw [unhex_ok (hex_ok s), hex_size, show 2 * s.size / 2 = s.size by omega, vals_hex s s.size (Nat.le_refl _), List.take_of_length_le (by rw [bytesOf_length]; omega), str_bytes]
end Go.Proofs.YtpgbkeaaklglkaaGreatDoor.Q