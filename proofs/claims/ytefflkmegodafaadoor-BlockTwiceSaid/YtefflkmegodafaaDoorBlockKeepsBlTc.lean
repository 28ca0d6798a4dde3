/-
  The walk of layer 12: block.Run.
-/
import Derived.Test.YtefflkmegodafaaDoorBlockKeepsBlTb
namespace Go.Proofs.YtefflkmegodafaaDoor.PBlockKeeps
open Go.RowKit Go.Proofs.YtefflkmegodafaaDoorW.PrintWords Go.Proofs.YtefflkmegodafaaDoorW.PrintLast Go.Proofs.YtefflkmegodafaaDoorW.PrintMore
attribute [local go_sem] Oper.semAt_some

theorem wrong_of_fit {k : Int} {l : List Int} (h : Fit k l) : block_wrong.f 8 k l = some 0 := by
  rcases h with ⟨hk, a, b, c, d, e, f, rfl, ha, hb, hc, hd, he, hf⟩ | ⟨hk, a, b, c, d, e, f, rfl, ha, hb, hc, hd, he, hf⟩ | ⟨hk, a, b, c, rfl, ha, hb, hc⟩ | ⟨rfl, a, b, c, d, e, f, rfl, ha, hb, hc, hd, he, hf⟩
  · obtain ⟨fs, hfs, hm⟩ := fields_time hk
    rw [wrong6 (fields_up hfs) hm (by simp) (by simp) (by simp) (by simp) (by simp) (by simp), if_pos]
    unfold Bit I32 at *
    simp [fitB]
    omega
  · obtain ⟨fs, hfs, hm⟩ := fields_count hk
    rw [wrong6 (fields_up hfs) hm (by simp) (by simp) (by simp) (by simp) (by simp) (by simp), if_pos]
    unfold Bit I16 at *
    simp [fitB]
    omega
  · obtain ⟨fs, hfs, hm⟩ := fields_three hk
    rw [wrong3 (fields_up hfs) hm (by simp) (by simp) (by simp), if_pos]
    unfold Bit at *
    simp [fitB]
    omega
  · obtain ⟨fs, hfs, hm⟩ := fields_quad
    rw [wrong6 hfs hm (by simp) (by simp) (by simp) (by simp) (by simp) (by simp), if_pos]
    unfold Bit I16 I32 at *
    simp [fitB]
    omega
set_option maxRecDepth 100000 in
theorem run_no (k : Int) (l : List Int) (r : Int) (hr : r ≠ 0) (hw : block_wrong.f 8 k l = some r) (A : Option Addr) (c : Nat) (v : Value) (w : World) (hC : Kd.C kI w A l.length l) (hc : l.length ≤ c) :
    Calls Tryd.prog 16 #[.int .i64 k, .slice A l.length c, v] w (Told w ([], r)) := by
  have HR := Lib.hid hC
  have HC := Lib.hid hc
  have HW := Lib.hid hw
  have HN := Lib.hid hr
  have h1 : (r != 0) = true := by simpa using hr
  clear hC hc hw hr
  go_enter Tryd.func16, Tryd.ntmps16
  go_wp2_with fail
  refine (block_wrong.calls 8 k _ c l r _ HR.out HC.out HW.out).mono ?_
  rintro e w1 ⟨rfl, hb⟩
  have HB := Lib.hid hb
  clear hb
  go_wp2
  go_ret2
  exact ⟨HB.out, .inr ⟨HN.out, rfl⟩⟩

theorem keep_box {w w' : World} {B g : Nat} {x y : Value} (hz : B < w.heap.size) (hg : B ≠ g) (hk : Kept w w' (fun k => k = g)) (h : w.cell? ⟨B, 0, none⟩ = some x ∧ w.cell? ⟨B, 1, none⟩ = some y) : w'.cell? ⟨B, 0, none⟩ = some x ∧ w'.cell? ⟨B, 1, none⟩ = some y := by
  have e := hk.2 B hz hg
  have c : ∀ o, w'.cell? ⟨B, o, none⟩ = w.cell? ⟨B, o, none⟩ := fun o => World.cell?_of_block (w := w) (a := ⟨B, o, none⟩) e
  exact ⟨(c 0).trans h.1, (c 1).trans h.2⟩
/-- what holds at the head of a round: what is left to run comes to R -/
def RunAt (r0 i0 r1 i1 r2 i2 r3 i3 : Nat) (k : Int) (M L : Nat) (R : List Int × Int) (w : World) (ys : List (Int × List Int)) (v : Value) (W : World) : Prop :=
  ∃ g c l, v = .slice (some ⟨g, 0, none⟩) L c ∧ l.length = L ∧ Row w.heap.size W g c l ∧ runF r0 i0 r1 i1 r2 i2 r3 i3 k M l ys = R ∧ Below w.heap.size w W
set_option maxRecDepth 100000 in
set_option maxHeartbeats 4000000 in
theorem run_core {r0 i0 r1 i1 r2 i2 r3 i3 : Nat} {k : Int} {l : List Int} {fs : List S60} {M L : Nat} (hL : l.length = L) (h0 : 0 < L) (hl2 : L ≤ 6) (hw : block_wrong.f 8 k l = some 0) (hfs : typed_Fields.f 8 k = some (fs, 0)) (hm1 : M < fs.length) (hm2 : ∀ i, i < M → (rd_T60 fs (i : Int)).f2 = true) (hm3 : (rd_T60 fs (M : Int)).f2 = false) (hm4 : M ≤ L)
    (xs : List Cl) (hx : xs.length ≤ 200) (A : Option Addr) (c : Nat) (A2 : Option Addr) (c2 : Nat) (w : World) (hq : Circ r0 i0 r1 i1 r2 i2 r3 i3 w) (hr : Kd.C kI w A l.length l) (hc : l.length ≤ c) (hca : CallsAt w A2 xs.length xs) :
    Calls Tryd.prog 16 #[.int .i64 k, .slice A l.length c, .slice A2 xs.length c2] w (Told w (runF r0 i0 r1 i1 r2 i2 r3 i3 k M l (xs.map Cl.d))) := by
  obtain ⟨ad, rfl⟩ := I_some hr (by omega)
  have HR := Lib.hid hr
  have HC := Lib.hid hc
  have HW := Lib.hid hw
  have HQ := Lib.hid hq
  have HX := Lib.hid hca
  have HF := Lib.hid hfs
  have HM2 := Lib.hid hm2
  have HM3 := Lib.hid hm3
  have HL := Lib.hid hL
  obtain ⟨R, hR⟩ : ∃ R, runF r0 i0 r1 i1 r2 i2 r3 i3 k M l (xs.map Cl.d) = R := ⟨_, rfl⟩
  rw [hR]
  have HE := Lib.hid hR
  have M5 : M ≤ 6 := by omega
  clear hr hc hw hq hca hfs hm2 hm3 hR hL
  go_enter Tryd.func16, Tryd.ntmps16
  go_wp2_with fail
  refine (block_wrong.calls 8 k _ c l 0 _ HR.out HC.out HW.out).mono ?_
  rintro e w1 ⟨rfl, hb⟩
  have HR1 := Lib.hid (Kd.C_below HR.out hb)
  have HB1 := Lib.hid hb
  clear hb HR
  go_wp2_with fail
  refine (typed_Fields.calls 8 k fs 0 _ HF.out).mono ?_
  rintro e w2 ⟨vf, rfl, hvf, hb⟩
  obtain ⟨Af, cf, rfl⟩ := Kd.R_slice hvf
  have HV := Lib.hid (Kd.R_reads' hvf).2.2
  have HR2 := Lib.hid (Kd.C_below HR1.out hb)
  have HB2 := Lib.hid (HB1.out.trans (hb.mono HB1.out.size))
  clear hvf hb HR1 HB1
  go_wp2_with fail
  go_loop [11] (fun i => ∃ j : Nat, j ≤ M ∧ i = .int .i64 j) (fun i => M + 1 - (intOf i).toNat)
  case atStart => exact ⟨0, by omega, rfl⟩
  case round =>
    obtain ⟨j, hj, rfl⟩ := hrel
    have hjl : j < fs.length := by omega
    obtain ⟨af, rfl, _, _, y2⟩ := at_T60 HV.out (j : Int) (by omega) (by omega)
    rw [Int.toNat_natCast] at y2
    by_cases hlt : j < M
    · rw [HM2.out j hlt] at y2
      go_wp2
      go_round
      case rel => exact ⟨j + 1, by omega, by go_num⟩
      case measure => simp [intOf]; omega
    · obtain rfl : j = M := by omega
      rw [HM3.out] at y2
      go_wp2_with fail
      refine (clone_any ad c l _ HR2.out (by have := HL.out; omega)).mono ?_
      rintro e w3 ⟨v, rfl, hv, hb⟩
      obtain ⟨g3, c3, rfl, _⟩ := (Kd.own_of_R hv).form (by have := HL.out; omega)
      have HB3 := Lib.hid (HB2.out.trans (hb.mono HB2.out.size))
      have HS : Hid (RunAt r0 i0 r1 i1 r2 i2 r3 i3 k j L R w ((xs.map Cl.d).drop 0) (.slice (some ⟨g3, 0, none⟩) L c3) w3) :=
        Lib.hid ⟨g3, c3, l, rfl, HL.out, Kd.R_lower hv HB2.out.size, HE.out, HB3.out⟩
      have e3 : l.length = L := HL.out
      rw [e3]
      clear hv hb HB2 HR2 y2 HV HB3 e3
      go_wp2_with fail
      go_loopw [1, 44] (fun v i wr => ∃ m : Nat, m ≤ xs.length ∧ i = .int .i64 m ∧ RunAt r0 i0 r1 i1 r2 i2 r3 i3 k j L R w ((xs.map Cl.d).drop m) v wr) (fun _ i _ => xs.length - (intOf i).toNat)
      case atStart => exact ⟨0, by omega, rfl, HS.out⟩
      case round =>
        clear HS
        obtain ⟨m, hm, rfl, g, cg, lm, rfl, hlm, hrow, hrun, hB⟩ := hrel
        rename World => wr
        have HRW := Lib.hid hrow
        have HRN := Lib.hid hrun
        have HB := Lib.hid hB
        have HLM := Lib.hid hlm
        clear hrow hrun hB hlm
        by_cases hmx : m < xs.length
        · obtain ⟨ax, x, rfl, hd, hri, z0, z1⟩ := (HX.out.below (HB.out)).at_ hmx
          obtain ⟨xn, xA, xl, xc, xv⟩ := x
          have exl : xv.length = xl := hri.1
          subst exl
          have hd' : (xs.map Cl.d).drop m = (xn, xv) :: (xs.map Cl.d).drop (m + 1) := by rw [← List.map_drop, hd, ← List.map_drop]; rfl
          have hun := HRN.out
          rw [hd'] at hun
          clear HRN hd' hd
          by_cases hlen : j < xv.length
          · unfold runF at hun
            rw [if_pos hlen] at hun
            have HU := Lib.hid hun
            clear hun hri
            go_wp2
            go_ret2
            rw [← HU.out]
            exact ⟨HB.out.alloc HB.out.size _, .inr ⟨by decide, rfl⟩⟩
          · have hrA := HRW.out.alloc (.cells #[.int .i64 xn, .slice xA xv.length xc] 40)
            obtain ⟨cur, hg, k1, k2, k3, k4, k5, k6⟩ := hrA.open_
            obtain ⟨b0, b1⟩ := box_new wr (.int .i64 xn) (.slice xA xv.length xc) 40
            have hgz : wr.heap.size ≠ g := by have := HRW.out.lt; omega
            have HG := Lib.hid hg
            have HRI := Lib.hid (hri.below (bnew' wr (.cells #[.int .i64 xn, .slice xA xv.length xc] 40)))
            have HBA := Lib.hid (HB.out.alloc HB.out.size (.cells #[.int .i64 xn, .slice xA xv.length xc] 40))
            have HU := Lib.hid hun
            have hav : xv.length ≤ lm.length := by have := HLM.out; omega
            have HK := Lib.hid (fun (W' : World) => Row.splice (W' := W') hav k2 k3 k4 k5 k6)
            have HGZ := Lib.hid hgz
            have hcl : L ≤ cur.length := by have := HLM.out; omega
            have HGB := Lib.hid k6
            have HOL := Lib.hid ((over_len hav).trans HLM.out)
            clear hg hri hun hav k1 k2 k3 k4 k5 k6 hgz hrA
            go_wp2_with ((with_reducible refine gate_builtin (b := .copy) (xs := #[.tmp 53, .tmp 55]) rfl ?_); refine wpList_copyK rfl (.tmp 53) (.tmp 55) 22 22 rfl 2 Tryd.underlying22 (by kernel_rfl) xA L cg xv.length xc g rfl rfl cur 2 HG.out xv HRI.out (by omega) hcl ?_; intro w4 hg4 hk4 hb4; obtain ⟨d0, d1⟩ := keep_box (by simp) HGZ.out hk4 ⟨b0, b1⟩; have HR4 := Lib.hid (HK.out w4 hg4.out); have HB4 := Lib.hid (hb4 _ _ HBA.out HGB.out); clear hg4 hk4 hb4 b0 b1 HK)
            have hst := stepF_to r0 i0 r1 i1 r2 i2 r3 i3 k xn (over xv lm) (some ⟨g, 0, none⟩) cg w4 (HQ.out.below HB4.out) HR4.out.C HR4.out.cap
            rw [HOL.out] at hst
            refine hst.mono ?_
            clear hst
            rintro e5 w5 ⟨hb5, ⟨hz, g5, c5, rfl, hr5⟩ | ⟨hnz, rfl⟩⟩
            · have hfit := (stepF_fit hz).2.2.trans HOL.out
              have hun := HU.out
              unfold runF at hun
              rw [if_neg hlen, if_pos hz] at hun
              have HB5 := Lib.hid (HB4.out.trans (hb5.mono HB4.out.size))
              have hr6 := hr5.lower HB4.out.size
              clear hr5 hz HU
              generalize stepF r0 i0 r1 i1 r2 i2 r3 i3 k xn (over xv lm) = r at hfit hun hr6 ⊢
              rw [hfit]
              have HR6 := Lib.hid hr6
              have HF6 := Lib.hid hfit
              have HU6 := Lib.hid hun
              clear hr6 hfit hun hb5 HB4 HR4 d0 d1
              go_wp2
              go_roundw
              case rel => exact ⟨m + 1, by omega, by go_num, g5, c5, r.1, rfl, HF6.out, HR6.out, HU6.out, HB5.out⟩
              case measure => simp [intOf]; omega
            · have hun := HU.out
              unfold runF at hun
              rw [if_neg hlen, if_neg hnz] at hun
              have HB5 := Lib.hid (HB4.out.trans (hb5.mono HB4.out.size))
              clear HU
              generalize stepF r0 i0 r1 i1 r2 i2 r3 i3 k xn (over xv lm) = r at hnz hun ⊢
              have hz1 : (r.2 != 0) = true := by simpa using hnz
              have HU6 := Lib.hid hun
              have HN6 := Lib.hid hnz
              clear hun hnz hb5 HB4 HR4
              go_wp2
              go_ret2
              rw [← HU6.out]
              exact ⟨HB5.out, .inr ⟨HN6.out, rfl⟩⟩
        · obtain rfl : m = xs.length := by omega
          have hun := HRN.out
          rw [List.drop_eq_nil_of_le (by simp)] at hun
          simp only [runF] at hun
          have HU := Lib.hid hun
          clear hun HRN
          go_wp2
          go_ret2
          rw [← HU.out]
          exact ⟨HB.out, .inl ⟨rfl, g, cg, by rw [HLM.out]; rfl, HRW.out⟩⟩
theorem run_fit {r0 i0 r1 i1 r2 i2 r3 i3 : Nat} {k : Int} {l : List Int} (hf : Fit k l) (xs : List Cl) (hx : xs.length ≤ 200) (A : Option Addr) (c : Nat) (A2 : Option Addr) (c2 : Nat) (w : World) (hq : Circ r0 i0 r1 i1 r2 i2 r3 i3 w) (hr : Kd.C kI w A l.length l) (hc : l.length ≤ c) (hca : CallsAt w A2 xs.length xs) :
    Calls Tryd.prog 16 #[.int .i64 k, .slice A l.length c, .slice A2 xs.length c2] w (Told w (runF r0 i0 r1 i1 r2 i2 r3 i3 k (mayV k) l (xs.map Cl.d))) := by
  obtain ⟨fs, h1, h2, h3, h4, h5⟩ := fields_set hf
  exact run_core rfl hf.len.1 hf.len.2 (wrong_of_fit hf) h1 h2 h3 h4 h5 xs hx A c A2 c2 w hq hr hc hca

end Go.Proofs.YtefflkmegodafaaDoor.PBlockKeeps
