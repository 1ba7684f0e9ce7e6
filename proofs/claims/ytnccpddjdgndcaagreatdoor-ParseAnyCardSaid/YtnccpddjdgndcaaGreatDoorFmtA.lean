/- THE WALK OF fmtEFG: fractions in the 'f' form. -/
import Derived.Test.YtnccpddjdgndcaaGreatDoorFmt6
namespace Go.Proofs.YtnccpddjdgndcaaGreatDoor.Fmt
open Go.RowKit Go.Lib
set_option linter.unusedSimpArgs false in
set_option maxRecDepth 20000 in
set_option maxHeartbeats 4000000 in
/-- a number with a fraction -/
theorem efg_f2 (neg : Bool) (D : List UInt8) (g base q : Nat) (cs : Array Value) (v : Value) (txt : List UInt8) (w : World)
    (hs : St w w base (some (g, cs)) v txt) (hd : Dig cs D) (hD : 1 ≤ D.length) (hD2 : D.length ≤ 20) (hl : txt.length ≤ 100) (hq0 : 0 < q) (hq : q < D.length) (hq6 : q ≤ 6) :
    Calls Tryz.prog 126 #[v, .bool neg, .slice (some ⟨g, 0, none⟩) 32 32, .int .i64 (q : Int), .int .i64 (D.length : Nat), .int .i64 (D.length : Nat), .int .u8 103, .bool true] w fun e w' =>
      ∃ v', e = .returned v' ∧ St w w' base (some (g, cs)) v' (txt ++ sgn neg ++ (D.take q ++ [46] ++ D.drop q)) := by
  have HS := Lib.hid hs; clear hs
  have HD := Lib.hid hd; clear hd
  have HL := Lib.hid hl; clear hl
  have n1 : ¬ (q : Int) - 1 < -4 := by omega
  have n2 : ¬ 6 ≤ (q : Int) - 1 := by omega
  have n3 : (q : Int) < D.length := by omega
  have n4 : (0 : Int) < (q : Int) := by omega
  have n6 : (q : Int) ≤ 32 := by omega
  have E1 : Hid (min (D.length : Int) (q : Int) = (q : Int)) := Lib.hid (by omega)
  have E2 : Hid (max ((D.length : Int) - q) 0 = (D.length : Int) - q) := Lib.hid (by omega)
  have E3 : Hid (max (q : Int) 0 = (q : Int)) := Lib.hid (by omega)
  have E4 : Hid (max 0 (-(q : Int)) = 0) := Lib.hid (by omega)
  have E5 : Hid (min ((D.length : Int) - q) 0 = 0) := Lib.hid (by omega)
  have E6 : Hid (max 0 ((D.length : Int) - q) = (D.length : Int) - q) := Lib.hid (by omega)
  go_enter Tryz.func126, Tryz.ntmps126
  cases neg
  · go_wp2_with (first | (at_builtin; (first | refine wpList_text rfl _ _ rfl (HS.out.alloc _) _ 1 1 [_] [45] rfl (cells_new1 _ _ _) (d1 rfl) rfl ?len ?_ | refine wpList_text rfl _ _ rfl (HS.out.alloc _) _ 1 1 [_] [46] rfl (cells_new1 _ _ _) (d1 rfl) rfl ?len ?_ | refine wpList_text rfl _ _ rfl (HS.out.alloc _) _ 1 1 [_] [48] rfl (cells_new1 _ _ _) (d1 rfl) rfl ?len ?_ | refine wpList_text rfl _ _ rfl (HS.out.alloc _) _ 1 1 [_] [D[k]] rfl (cells_new1 _ _ _) (d1 rfl) rfl ?len ?_ | refine wpList_text rfl _ _ rfl (HS.out.alloc _) _ 1 1 [_] [D[q + k]] rfl (cells_new1 _ _ _) (d1 rfl) rfl ?len ?_); (case len => have := HL.out; (try simp only [List.length_append, List.length_cons, List.length_nil, List.length_drop, List.length_take, List.length_replicate]); omega); intro v' w3 hs3; clear HS; have HS := Lib.hid hs3; clear hs3) | fail)
    generalize hT : txt = T at HS HL
    have HT := Lib.hid hT; clear hT
    simp only [E1.out, E2.out, E3.out, Int.toNat_natCast]
    go_loopw [0, 25, 191] (fun va vc vk wr => ∃ k : Nat, k ≤ q ∧ vk = .int .i64 k ∧ Hid (St w wr base (some (g, cs)) va (T ++ D.take k))) (fun _ _ vk _ => q - (RowKit.intOf vk).toNat)
    case atStart => exact ⟨0, Nat.zero_le _, rfl, Lib.hid (by simpa using HS.out)⟩
    case round =>
      clear HS
      obtain ⟨k, hk, rfl, HS⟩ := hrel
      rcases Nat.lt_or_ge k q with hkz | hkz
      · have k1 : (k : Int) < (q : Nat) := by omega
        have k2 : (k : Int) < 32 := by omega
        have c0 := HS.out.dig HD.out k (by omega)
        go_wp2_with (first | (at_builtin; (first | refine wpList_text rfl _ _ rfl (HS.out.alloc _) _ 1 1 [_] [45] rfl (cells_new1 _ _ _) (d1 rfl) rfl ?len ?_ | refine wpList_text rfl _ _ rfl (HS.out.alloc _) _ 1 1 [_] [46] rfl (cells_new1 _ _ _) (d1 rfl) rfl ?len ?_ | refine wpList_text rfl _ _ rfl (HS.out.alloc _) _ 1 1 [_] [48] rfl (cells_new1 _ _ _) (d1 rfl) rfl ?len ?_ | refine wpList_text rfl _ _ rfl (HS.out.alloc _) _ 1 1 [_] [D[k]] rfl (cells_new1 _ _ _) (d1 rfl) rfl ?len ?_ | refine wpList_text rfl _ _ rfl (HS.out.alloc _) _ 1 1 [_] [D[q + k]] rfl (cells_new1 _ _ _) (d1 rfl) rfl ?len ?_); (case len => have := HL.out; (try simp only [List.length_append, List.length_cons, List.length_nil, List.length_drop, List.length_take, List.length_replicate]); omega); intro v' w3 hs3; clear HS; have HS := Lib.hid hs3; clear hs3) | fail)
        exact ⟨⟨k + 1, hkz, by simp, Lib.hid (by have h := HS.out; rwa [List.append_assoc, List.take_append_getElem] at h)⟩, by simp [RowKit.intOf]; omega⟩
      · have hke : k = q := by omega
        have HS2 : Hid (St w wr base (some (g, cs)) u0 (T ++ D.take (q))) := Lib.hid (by rw [← hke]; exact HS.out)
        clear HS; have HS := HS2; clear HS2
        have k1 : ¬ (k : Int) < (q : Nat) := by omega
        clear hkz hk hke
        go_wp2_with (first | (at_builtin; (first | refine wpList_text rfl _ _ rfl (HS.out.alloc _) _ 1 1 [_] [45] rfl (cells_new1 _ _ _) (d1 rfl) rfl ?len ?_ | refine wpList_text rfl _ _ rfl (HS.out.alloc _) _ 1 1 [_] [46] rfl (cells_new1 _ _ _) (d1 rfl) rfl ?len ?_ | refine wpList_text rfl _ _ rfl (HS.out.alloc _) _ 1 1 [_] [48] rfl (cells_new1 _ _ _) (d1 rfl) rfl ?len ?_ | refine wpList_text rfl _ _ rfl (HS.out.alloc _) _ 1 1 [_] [D[k]] rfl (cells_new1 _ _ _) (d1 rfl) rfl ?len ?_ | refine wpList_text rfl _ _ rfl (HS.out.alloc _) _ 1 1 [_] [D[q + k]] rfl (cells_new1 _ _ _) (d1 rfl) rfl ?len ?_); (case len => have := HL.out; (try simp only [List.length_append, List.length_cons, List.length_nil, List.length_drop, List.length_take, List.length_replicate]); omega); intro v' w3 hs3; clear HS; have HS := Lib.hid hs3; clear hs3) | fail)
        clear k1
        generalize hTT2 : T ++ D.take (q) = T2 at HS
        have HL2 : Hid (T2.length ≤ 140) := Lib.hid (by have := HL.out; rw [← hTT2]; simp; omega)
        have HT2 := Lib.hid hTT2; clear hTT2 HL
        have HL := HL2; clear HL2
        generalize u0 = v3 at *
        go_loopw [0, 203] (fun va vk wr2 => va = v3 ∧ vk = .int .i64 0 ∧ wr2 = wr) (fun _ _ _ => 0)
        case atStart => exact ⟨rfl, rfl, rfl⟩
        case round =>
          obtain ⟨rfl, rfl, rfl⟩ := hrel
          go_wp2_with (first | (at_builtin; (first | refine wpList_text rfl _ _ rfl (HS.out.alloc _) _ 1 1 [_] [45] rfl (cells_new1 _ _ _) (d1 rfl) rfl ?len ?_ | refine wpList_text rfl _ _ rfl (HS.out.alloc _) _ 1 1 [_] [46] rfl (cells_new1 _ _ _) (d1 rfl) rfl ?len ?_ | refine wpList_text rfl _ _ rfl (HS.out.alloc _) _ 1 1 [_] [48] rfl (cells_new1 _ _ _) (d1 rfl) rfl ?len ?_ | refine wpList_text rfl _ _ rfl (HS.out.alloc _) _ 1 1 [_] [D[k]] rfl (cells_new1 _ _ _) (d1 rfl) rfl ?len ?_ | refine wpList_text rfl _ _ rfl (HS.out.alloc _) _ 1 1 [_] [D[q + k]] rfl (cells_new1 _ _ _) (d1 rfl) rfl ?len ?_); (case len => have := HL.out; (try simp only [List.length_append, List.length_cons, List.length_nil, List.length_drop, List.length_take, List.length_replicate]); omega); intro v' w3 hs3; clear HS; have HS := Lib.hid hs3; clear hs3) | fail)
          generalize hTT3 : T2 ++ [46] = T3 at HS
          have HL2 : Hid (T3.length ≤ 150) := Lib.hid (by have := HL.out; rw [← hTT3]; simp; omega)
          have HT3 := Lib.hid hTT3; clear hTT3 HL
          have HL := HL2; clear HL2
          simp only [E4.out, E5.out, E6.out, Int.add_zero, Int.sub_zero, Int.sub_self, Int.min_self, Int.max_self]
          have HR : Hid ((D.length : Int) - (q : Int) = ((D.length - q : Nat) : Int)) := Lib.hid (by omega)
          simp only [HR.out, E6.out, Int.min_self, Int.max_self, Int.sub_self]
          obtain ⟨r, hr⟩ : ∃ r : Nat, r = D.length - q := ⟨_, rfl⟩
          rw [← hr]
          have HRR := Lib.hid hr; clear hr
          have hr6 : r ≤ 20 := by have := HRR.out; omega
          go_loopw [0, 240] (fun va vk wr2 => va = v' ∧ vk = .int .i64 0 ∧ wr2 = w3) (fun _ _ _ => 0)
          case atStart => exact ⟨rfl, rfl, rfl⟩
          case round =>
            obtain ⟨rfl, rfl, rfl⟩ := hrel
            go_wp2_with (first | (at_builtin; (first | refine wpList_text rfl _ _ rfl (HS.out.alloc _) _ 1 1 [_] [45] rfl (cells_new1 _ _ _) (d1 rfl) rfl ?len ?_ | refine wpList_text rfl _ _ rfl (HS.out.alloc _) _ 1 1 [_] [46] rfl (cells_new1 _ _ _) (d1 rfl) rfl ?len ?_ | refine wpList_text rfl _ _ rfl (HS.out.alloc _) _ 1 1 [_] [48] rfl (cells_new1 _ _ _) (d1 rfl) rfl ?len ?_ | refine wpList_text rfl _ _ rfl (HS.out.alloc _) _ 1 1 [_] [D[k]] rfl (cells_new1 _ _ _) (d1 rfl) rfl ?len ?_ | refine wpList_text rfl _ _ rfl (HS.out.alloc _) _ 1 1 [_] [D[q + k]] rfl (cells_new1 _ _ _) (d1 rfl) rfl ?len ?_); (case len => have := HL.out; (try simp only [List.length_append, List.length_cons, List.length_nil, List.length_drop, List.length_take, List.length_replicate]); omega); intro v' w3 hs3; clear HS; have HS := Lib.hid hs3; clear hs3) | fail)
            go_loopw [0, 247] (fun va vk wr => ∃ k : Nat, k ≤ r ∧ vk = .int .i64 k ∧ Hid (St w wr base (some (g, cs)) va (T3 ++ (D.drop q).take k))) (fun _ vk _ => r - (RowKit.intOf vk).toNat)
            case atStart => exact ⟨0, Nat.zero_le _, rfl, Lib.hid (by simpa using HS.out)⟩
            case round =>
              clear HS
              obtain ⟨k, hk, rfl, HS⟩ := hrel
              rcases Nat.lt_or_ge k r with hkz | hkz
              · have k1 : (k : Int) < (r : Nat) := by omega
                have hqk : q + k < D.length := by have := HRR.out; omega
                have k2 : (q : Int) + (k : Int) < 32 := by omega
                have c0 := HS.out.dig HD.out (q + k) hqk
                go_wp2_with (first | (at_builtin; (first | refine wpList_text rfl _ _ rfl (HS.out.alloc _) _ 1 1 [_] [45] rfl (cells_new1 _ _ _) (d1 rfl) rfl ?len ?_ | refine wpList_text rfl _ _ rfl (HS.out.alloc _) _ 1 1 [_] [46] rfl (cells_new1 _ _ _) (d1 rfl) rfl ?len ?_ | refine wpList_text rfl _ _ rfl (HS.out.alloc _) _ 1 1 [_] [48] rfl (cells_new1 _ _ _) (d1 rfl) rfl ?len ?_ | refine wpList_text rfl _ _ rfl (HS.out.alloc _) _ 1 1 [_] [D[k]] rfl (cells_new1 _ _ _) (d1 rfl) rfl ?len ?_ | refine wpList_text rfl _ _ rfl (HS.out.alloc _) _ 1 1 [_] [D[q + k]] rfl (cells_new1 _ _ _) (d1 rfl) rfl ?len ?_); (case len => have := HL.out; (try simp only [List.length_append, List.length_cons, List.length_nil, List.length_drop, List.length_take, List.length_replicate]); omega); intro v' w3 hs3; clear HS; have HS := Lib.hid hs3; clear hs3) | fail)
                exact ⟨⟨k + 1, hkz, by simp, Lib.hid (by have h := HS.out; rwa [List.append_assoc, show [D[q + k]] = [(D.drop q)[k]'(by rw [List.length_drop]; omega)] from by rw [List.getElem_drop], List.take_append_getElem] at h)⟩, by simp [RowKit.intOf]; omega⟩
              · have hke : k = r := by omega
                have HS2 : Hid (St w wr base (some (g, cs)) u0 (T3 ++ (D.drop q).take (r))) := Lib.hid (by rw [← hke]; exact HS.out)
                clear HS; have HS := HS2; clear HS2
                have k1 : ¬ (k : Int) < (r : Nat) := by omega
                clear hkz hk hke
                go_wp2_with (first | (at_builtin; (first | refine wpList_text rfl _ _ rfl (HS.out.alloc _) _ 1 1 [_] [45] rfl (cells_new1 _ _ _) (d1 rfl) rfl ?len ?_ | refine wpList_text rfl _ _ rfl (HS.out.alloc _) _ 1 1 [_] [46] rfl (cells_new1 _ _ _) (d1 rfl) rfl ?len ?_ | refine wpList_text rfl _ _ rfl (HS.out.alloc _) _ 1 1 [_] [48] rfl (cells_new1 _ _ _) (d1 rfl) rfl ?len ?_ | refine wpList_text rfl _ _ rfl (HS.out.alloc _) _ 1 1 [_] [D[k]] rfl (cells_new1 _ _ _) (d1 rfl) rfl ?len ?_ | refine wpList_text rfl _ _ rfl (HS.out.alloc _) _ 1 1 [_] [D[q + k]] rfl (cells_new1 _ _ _) (d1 rfl) rfl ?len ?_); (case len => have := HL.out; (try simp only [List.length_append, List.length_cons, List.length_nil, List.length_drop, List.length_take, List.length_replicate]); omega); intro v' w3 hs3; clear HS; have HS := Lib.hid hs3; clear hs3) | fail)
                clear k1
                generalize u0 = v3 at *
                go_loopw [0, 261] (fun va vk wr2 => va = v3 ∧ vk = .int .i64 0 ∧ wr2 = wr) (fun _ _ _ => 0)
                case atStart => exact ⟨rfl, rfl, rfl⟩
                case round =>
                  obtain ⟨rfl, rfl, rfl⟩ := hrel
                  go_wp2_with (first | (at_builtin; (first | refine wpList_text rfl _ _ rfl (HS.out.alloc _) _ 1 1 [_] [45] rfl (cells_new1 _ _ _) (d1 rfl) rfl ?len ?_ | refine wpList_text rfl _ _ rfl (HS.out.alloc _) _ 1 1 [_] [46] rfl (cells_new1 _ _ _) (d1 rfl) rfl ?len ?_ | refine wpList_text rfl _ _ rfl (HS.out.alloc _) _ 1 1 [_] [48] rfl (cells_new1 _ _ _) (d1 rfl) rfl ?len ?_ | refine wpList_text rfl _ _ rfl (HS.out.alloc _) _ 1 1 [_] [D[k]] rfl (cells_new1 _ _ _) (d1 rfl) rfl ?len ?_ | refine wpList_text rfl _ _ rfl (HS.out.alloc _) _ 1 1 [_] [D[q + k]] rfl (cells_new1 _ _ _) (d1 rfl) rfl ?len ?_); (case len => have := HL.out; (try simp only [List.length_append, List.length_cons, List.length_nil, List.length_drop, List.length_take, List.length_replicate]); omega); intro v' w3 hs3; clear HS; have HS := Lib.hid hs3; clear hs3) | fail)
                  go_ret
                  refine ⟨_, rfl, ?_⟩
                  have h := HS.out
                  have ht : (D.drop q).take r = D.drop q := List.take_of_length_le (by rw [List.length_drop]; have := HRR.out; omega)
                  rw [ht, ← HT3.out, ← HT2.out, ← HT.out] at h
                  simpa [sgn] using h
  · go_wp2_with (first | (at_builtin; (first | refine wpList_text rfl _ _ rfl (HS.out.alloc _) _ 1 1 [_] [45] rfl (cells_new1 _ _ _) (d1 rfl) rfl ?len ?_ | refine wpList_text rfl _ _ rfl (HS.out.alloc _) _ 1 1 [_] [46] rfl (cells_new1 _ _ _) (d1 rfl) rfl ?len ?_ | refine wpList_text rfl _ _ rfl (HS.out.alloc _) _ 1 1 [_] [48] rfl (cells_new1 _ _ _) (d1 rfl) rfl ?len ?_ | refine wpList_text rfl _ _ rfl (HS.out.alloc _) _ 1 1 [_] [D[k]] rfl (cells_new1 _ _ _) (d1 rfl) rfl ?len ?_ | refine wpList_text rfl _ _ rfl (HS.out.alloc _) _ 1 1 [_] [D[q + k]] rfl (cells_new1 _ _ _) (d1 rfl) rfl ?len ?_); (case len => have := HL.out; (try simp only [List.length_append, List.length_cons, List.length_nil, List.length_drop, List.length_take, List.length_replicate]); omega); intro v' w3 hs3; clear HS; have HS := Lib.hid hs3; clear hs3) | fail)
    generalize hTT : txt ++ [45] = T at HS
    have HL2 : Hid (T.length ≤ 110) := Lib.hid (by have := HL.out; rw [← hTT]; simp; omega)
    have HT := Lib.hid hTT; clear hTT HL
    have HL := HL2; clear HL2
    simp only [E1.out, E2.out, E3.out, Int.toNat_natCast]
    go_loopw [0, 25, 191] (fun va vc vk wr => ∃ k : Nat, k ≤ q ∧ vk = .int .i64 k ∧ Hid (St w wr base (some (g, cs)) va (T ++ D.take k))) (fun _ _ vk _ => q - (RowKit.intOf vk).toNat)
    case atStart => exact ⟨0, Nat.zero_le _, rfl, Lib.hid (by simpa using HS.out)⟩
    case round =>
      clear HS
      obtain ⟨k, hk, rfl, HS⟩ := hrel
      rcases Nat.lt_or_ge k q with hkz | hkz
      · have k1 : (k : Int) < (q : Nat) := by omega
        have k2 : (k : Int) < 32 := by omega
        have c0 := HS.out.dig HD.out k (by omega)
        go_wp2_with (first | (at_builtin; (first | refine wpList_text rfl _ _ rfl (HS.out.alloc _) _ 1 1 [_] [45] rfl (cells_new1 _ _ _) (d1 rfl) rfl ?len ?_ | refine wpList_text rfl _ _ rfl (HS.out.alloc _) _ 1 1 [_] [46] rfl (cells_new1 _ _ _) (d1 rfl) rfl ?len ?_ | refine wpList_text rfl _ _ rfl (HS.out.alloc _) _ 1 1 [_] [48] rfl (cells_new1 _ _ _) (d1 rfl) rfl ?len ?_ | refine wpList_text rfl _ _ rfl (HS.out.alloc _) _ 1 1 [_] [D[k]] rfl (cells_new1 _ _ _) (d1 rfl) rfl ?len ?_ | refine wpList_text rfl _ _ rfl (HS.out.alloc _) _ 1 1 [_] [D[q + k]] rfl (cells_new1 _ _ _) (d1 rfl) rfl ?len ?_); (case len => have := HL.out; (try simp only [List.length_append, List.length_cons, List.length_nil, List.length_drop, List.length_take, List.length_replicate]); omega); intro v' w3 hs3; clear HS; have HS := Lib.hid hs3; clear hs3) | fail)
        exact ⟨⟨k + 1, hkz, by simp, Lib.hid (by have h := HS.out; rwa [List.append_assoc, List.take_append_getElem] at h)⟩, by simp [RowKit.intOf]; omega⟩
      · have hke : k = q := by omega
        have HS2 : Hid (St w wr base (some (g, cs)) u0 (T ++ D.take (q))) := Lib.hid (by rw [← hke]; exact HS.out)
        clear HS; have HS := HS2; clear HS2
        have k1 : ¬ (k : Int) < (q : Nat) := by omega
        clear hkz hk hke
        go_wp2_with (first | (at_builtin; (first | refine wpList_text rfl _ _ rfl (HS.out.alloc _) _ 1 1 [_] [45] rfl (cells_new1 _ _ _) (d1 rfl) rfl ?len ?_ | refine wpList_text rfl _ _ rfl (HS.out.alloc _) _ 1 1 [_] [46] rfl (cells_new1 _ _ _) (d1 rfl) rfl ?len ?_ | refine wpList_text rfl _ _ rfl (HS.out.alloc _) _ 1 1 [_] [48] rfl (cells_new1 _ _ _) (d1 rfl) rfl ?len ?_ | refine wpList_text rfl _ _ rfl (HS.out.alloc _) _ 1 1 [_] [D[k]] rfl (cells_new1 _ _ _) (d1 rfl) rfl ?len ?_ | refine wpList_text rfl _ _ rfl (HS.out.alloc _) _ 1 1 [_] [D[q + k]] rfl (cells_new1 _ _ _) (d1 rfl) rfl ?len ?_); (case len => have := HL.out; (try simp only [List.length_append, List.length_cons, List.length_nil, List.length_drop, List.length_take, List.length_replicate]); omega); intro v' w3 hs3; clear HS; have HS := Lib.hid hs3; clear hs3) | fail)
        clear k1
        generalize hTT2 : T ++ D.take (q) = T2 at HS
        have HL2 : Hid (T2.length ≤ 140) := Lib.hid (by have := HL.out; rw [← hTT2]; simp; omega)
        have HT2 := Lib.hid hTT2; clear hTT2 HL
        have HL := HL2; clear HL2
        generalize u0 = v3 at *
        go_loopw [0, 203] (fun va vk wr2 => va = v3 ∧ vk = .int .i64 0 ∧ wr2 = wr) (fun _ _ _ => 0)
        case atStart => exact ⟨rfl, rfl, rfl⟩
        case round =>
          obtain ⟨rfl, rfl, rfl⟩ := hrel
          go_wp2_with (first | (at_builtin; (first | refine wpList_text rfl _ _ rfl (HS.out.alloc _) _ 1 1 [_] [45] rfl (cells_new1 _ _ _) (d1 rfl) rfl ?len ?_ | refine wpList_text rfl _ _ rfl (HS.out.alloc _) _ 1 1 [_] [46] rfl (cells_new1 _ _ _) (d1 rfl) rfl ?len ?_ | refine wpList_text rfl _ _ rfl (HS.out.alloc _) _ 1 1 [_] [48] rfl (cells_new1 _ _ _) (d1 rfl) rfl ?len ?_ | refine wpList_text rfl _ _ rfl (HS.out.alloc _) _ 1 1 [_] [D[k]] rfl (cells_new1 _ _ _) (d1 rfl) rfl ?len ?_ | refine wpList_text rfl _ _ rfl (HS.out.alloc _) _ 1 1 [_] [D[q + k]] rfl (cells_new1 _ _ _) (d1 rfl) rfl ?len ?_); (case len => have := HL.out; (try simp only [List.length_append, List.length_cons, List.length_nil, List.length_drop, List.length_take, List.length_replicate]); omega); intro v' w3 hs3; clear HS; have HS := Lib.hid hs3; clear hs3) | fail)
          generalize hTT3 : T2 ++ [46] = T3 at HS
          have HL2 : Hid (T3.length ≤ 150) := Lib.hid (by have := HL.out; rw [← hTT3]; simp; omega)
          have HT3 := Lib.hid hTT3; clear hTT3 HL
          have HL := HL2; clear HL2
          simp only [E4.out, E5.out, E6.out, Int.add_zero, Int.sub_zero, Int.sub_self, Int.min_self, Int.max_self]
          have HR : Hid ((D.length : Int) - (q : Int) = ((D.length - q : Nat) : Int)) := Lib.hid (by omega)
          simp only [HR.out, E6.out, Int.min_self, Int.max_self, Int.sub_self]
          obtain ⟨r, hr⟩ : ∃ r : Nat, r = D.length - q := ⟨_, rfl⟩
          rw [← hr]
          have HRR := Lib.hid hr; clear hr
          have hr6 : r ≤ 20 := by have := HRR.out; omega
          go_loopw [0, 240] (fun va vk wr2 => va = v' ∧ vk = .int .i64 0 ∧ wr2 = w3) (fun _ _ _ => 0)
          case atStart => exact ⟨rfl, rfl, rfl⟩
          case round =>
            obtain ⟨rfl, rfl, rfl⟩ := hrel
            go_wp2_with (first | (at_builtin; (first | refine wpList_text rfl _ _ rfl (HS.out.alloc _) _ 1 1 [_] [45] rfl (cells_new1 _ _ _) (d1 rfl) rfl ?len ?_ | refine wpList_text rfl _ _ rfl (HS.out.alloc _) _ 1 1 [_] [46] rfl (cells_new1 _ _ _) (d1 rfl) rfl ?len ?_ | refine wpList_text rfl _ _ rfl (HS.out.alloc _) _ 1 1 [_] [48] rfl (cells_new1 _ _ _) (d1 rfl) rfl ?len ?_ | refine wpList_text rfl _ _ rfl (HS.out.alloc _) _ 1 1 [_] [D[k]] rfl (cells_new1 _ _ _) (d1 rfl) rfl ?len ?_ | refine wpList_text rfl _ _ rfl (HS.out.alloc _) _ 1 1 [_] [D[q + k]] rfl (cells_new1 _ _ _) (d1 rfl) rfl ?len ?_); (case len => have := HL.out; (try simp only [List.length_append, List.length_cons, List.length_nil, List.length_drop, List.length_take, List.length_replicate]); omega); intro v' w3 hs3; clear HS; have HS := Lib.hid hs3; clear hs3) | fail)
            go_loopw [0, 247] (fun va vk wr => ∃ k : Nat, k ≤ r ∧ vk = .int .i64 k ∧ Hid (St w wr base (some (g, cs)) va (T3 ++ (D.drop q).take k))) (fun _ vk _ => r - (RowKit.intOf vk).toNat)
            case atStart => exact ⟨0, Nat.zero_le _, rfl, Lib.hid (by simpa using HS.out)⟩
            case round =>
              clear HS
              obtain ⟨k, hk, rfl, HS⟩ := hrel
              rcases Nat.lt_or_ge k r with hkz | hkz
              · have k1 : (k : Int) < (r : Nat) := by omega
                have hqk : q + k < D.length := by have := HRR.out; omega
                have k2 : (q : Int) + (k : Int) < 32 := by omega
                have c0 := HS.out.dig HD.out (q + k) hqk
                go_wp2_with (first | (at_builtin; (first | refine wpList_text rfl _ _ rfl (HS.out.alloc _) _ 1 1 [_] [45] rfl (cells_new1 _ _ _) (d1 rfl) rfl ?len ?_ | refine wpList_text rfl _ _ rfl (HS.out.alloc _) _ 1 1 [_] [46] rfl (cells_new1 _ _ _) (d1 rfl) rfl ?len ?_ | refine wpList_text rfl _ _ rfl (HS.out.alloc _) _ 1 1 [_] [48] rfl (cells_new1 _ _ _) (d1 rfl) rfl ?len ?_ | refine wpList_text rfl _ _ rfl (HS.out.alloc _) _ 1 1 [_] [D[k]] rfl (cells_new1 _ _ _) (d1 rfl) rfl ?len ?_ | refine wpList_text rfl _ _ rfl (HS.out.alloc _) _ 1 1 [_] [D[q + k]] rfl (cells_new1 _ _ _) (d1 rfl) rfl ?len ?_); (case len => have := HL.out; (try simp only [List.length_append, List.length_cons, List.length_nil, List.length_drop, List.length_take, List.length_replicate]); omega); intro v' w3 hs3; clear HS; have HS := Lib.hid hs3; clear hs3) | fail)
                exact ⟨⟨k + 1, hkz, by simp, Lib.hid (by have h := HS.out; rwa [List.append_assoc, show [D[q + k]] = [(D.drop q)[k]'(by rw [List.length_drop]; omega)] from by rw [List.getElem_drop], List.take_append_getElem] at h)⟩, by simp [RowKit.intOf]; omega⟩
              · have hke : k = r := by omega
                have HS2 : Hid (St w wr base (some (g, cs)) u0 (T3 ++ (D.drop q).take (r))) := Lib.hid (by rw [← hke]; exact HS.out)
                clear HS; have HS := HS2; clear HS2
                have k1 : ¬ (k : Int) < (r : Nat) := by omega
                clear hkz hk hke
                go_wp2_with (first | (at_builtin; (first | refine wpList_text rfl _ _ rfl (HS.out.alloc _) _ 1 1 [_] [45] rfl (cells_new1 _ _ _) (d1 rfl) rfl ?len ?_ | refine wpList_text rfl _ _ rfl (HS.out.alloc _) _ 1 1 [_] [46] rfl (cells_new1 _ _ _) (d1 rfl) rfl ?len ?_ | refine wpList_text rfl _ _ rfl (HS.out.alloc _) _ 1 1 [_] [48] rfl (cells_new1 _ _ _) (d1 rfl) rfl ?len ?_ | refine wpList_text rfl _ _ rfl (HS.out.alloc _) _ 1 1 [_] [D[k]] rfl (cells_new1 _ _ _) (d1 rfl) rfl ?len ?_ | refine wpList_text rfl _ _ rfl (HS.out.alloc _) _ 1 1 [_] [D[q + k]] rfl (cells_new1 _ _ _) (d1 rfl) rfl ?len ?_); (case len => have := HL.out; (try simp only [List.length_append, List.length_cons, List.length_nil, List.length_drop, List.length_take, List.length_replicate]); omega); intro v' w3 hs3; clear HS; have HS := Lib.hid hs3; clear hs3) | fail)
                clear k1
                generalize u0 = v3 at *
                go_loopw [0, 261] (fun va vk wr2 => va = v3 ∧ vk = .int .i64 0 ∧ wr2 = wr) (fun _ _ _ => 0)
                case atStart => exact ⟨rfl, rfl, rfl⟩
                case round =>
                  obtain ⟨rfl, rfl, rfl⟩ := hrel
                  go_wp2_with (first | (at_builtin; (first | refine wpList_text rfl _ _ rfl (HS.out.alloc _) _ 1 1 [_] [45] rfl (cells_new1 _ _ _) (d1 rfl) rfl ?len ?_ | refine wpList_text rfl _ _ rfl (HS.out.alloc _) _ 1 1 [_] [46] rfl (cells_new1 _ _ _) (d1 rfl) rfl ?len ?_ | refine wpList_text rfl _ _ rfl (HS.out.alloc _) _ 1 1 [_] [48] rfl (cells_new1 _ _ _) (d1 rfl) rfl ?len ?_ | refine wpList_text rfl _ _ rfl (HS.out.alloc _) _ 1 1 [_] [D[k]] rfl (cells_new1 _ _ _) (d1 rfl) rfl ?len ?_ | refine wpList_text rfl _ _ rfl (HS.out.alloc _) _ 1 1 [_] [D[q + k]] rfl (cells_new1 _ _ _) (d1 rfl) rfl ?len ?_); (case len => have := HL.out; (try simp only [List.length_append, List.length_cons, List.length_nil, List.length_drop, List.length_take, List.length_replicate]); omega); intro v' w3 hs3; clear HS; have HS := Lib.hid hs3; clear hs3) | fail)
                  go_ret
                  refine ⟨_, rfl, ?_⟩
                  have h := HS.out
                  have ht : (D.drop q).take r = D.drop q := List.take_of_length_le (by rw [List.length_drop]; have := HRR.out; omega)
                  rw [ht, ← HT3.out, ← HT2.out, ← HT.out] at h
                  simpa [sgn] using h
end Go.Proofs.YtnccpddjdgndcaaGreatDoor.Fmt
