/- Texts SmKa SmX1 SmX2 SmX3 SmPr SmKb. -/
import Derived.Test.YtnfnaehonkbknaaGreatDoorJ22
set_option linter.defProp false
set_option linter.unusedSimpArgs false
set_option linter.unusedVariables false
set_option maxRecDepth 100000
set_option maxHeartbeats 2000000
section
namespace Go.Proofs.YtnfnaehonkbknaaGreatDoor
open Go Go.X Go.Proofs.Tryz
def y19_157 := aN @Dw1 (aN @Dwj (aN @Bjx (aN @bld_26__0 (aN @Dwr (aN @Dvq (aN @Dwb (aN @Dyf (aN @Dwl (aN @Dxr (aN @Cke (aN @Dza (aN (fun H => Bwu (H := H) underlying103) (aN (fun H => Bjs (H := H) underlying103) (aN (fun H => Bwv (H := H) underlying103) (aN (fun H => Bju (H := H) underlying103) (aN @Dxs (aN @Dvn (aN @Dwc (aN @Dvo (aN @Dwa (aN @callF55 (aN @Dvp (aN @Dv9 (aN @Dxt (aN @Dyl (aN @Dym (aN @Dyj (aN (fun H => Bqj (H := H) underlying24 sizeOf46) (aN (fun H => buildSlice_agg1 (H := H) underlying24 sizeOf46 zeroValue46 rfl (by decide) (by decide)) (aN @Bqr @Dxu))))))))))))))))))))))))))))))
def y55_157 := aN @Ckf (fun H => Bjt (H := H) underlying23)
theorem z0_157 {p q : Prop} (g : q) (h : Hid q -> p := by
 intro g
 repeat' (first
 | (refine Axv rfl ?_; intro Kz hKz; simp -implicitDefEqProofs (disch := first | omega | (simp only [qd] <;> omega)) only [xq, ↓xp, qc, Nat.reduceAdd, List.range, List.range.loop, fine, Nat.reduceEqDiff, ↓reduceIte, yielded, reduceCtorEq, Nat.reduceLT, Nat.reduceMul, Nat.reduceSub, one, Nat.reduceLeDiff, Aqj, y55_157, aq, ↓ap, qe0, qe1, qe2, *, -g, -hKz, Option.isNone_none]; try (refine hKz _ _ ?_; clear hKz Kz))
 | (refine Az0 rfl ?_; intro Kz hKz; simp -implicitDefEqProofs (disch := first | omega | (simp only [qd] <;> omega)) only [xq, ↓xp, qc, Nat.reduceAdd, List.range, List.range.loop, fine, Nat.reduceEqDiff, ↓reduceIte, yielded, reduceCtorEq, Nat.reduceLT, Nat.reduceMul, Nat.reduceSub, one, Nat.reduceLeDiff, Aqj, y55_157, aq, ↓ap, qe0, qe1, qe2, *, -g, -hKz, Option.isNone_none]; try (refine hKz _ _ ?_; clear hKz Kz; (try simp only [nq, ↓reduceIte, Nat.reduceEqDiff])))
 | (refine Ajc ?_; (try simp only [nq, ↓reduceIte, Nat.reduceEqDiff]))
 | (refine Azu ?_; (try simp only [nq, ↓reduceIte, Nat.reduceEqDiff]))
 | (refine Ajo ?_; (try simp only [nq, ↓reduceIte, Nat.reduceEqDiff]))
 | (refine Ajp ?_; (try simp only [nq, ↓reduceIte, Nat.reduceEqDiff]))
 | (refine Azz (by simp only [Aq6, Axg, Nat.reduceEqDiff, Nat.reduceLT, ↓reduceIte, *, -g]; rfl) ?_ ?_ <;> (intro hcz; first | (exfalso; simp -implicitDefEqProofs (disch := omega) only [*, -g, bq, reduceCtorEq] at hcz; done) | (simp only [dq, qe3, qe4, qe5, qe6] at hcz) | skip))
 | (refine Az7 ?_)
 | (refine Azt ?_)
 | (refine Axy ?_))
 refine unT ?_; (try (revert hcz; refine unC ?_)); (repeat (revert hcz; refine unD ?_)); first | revert Kz | refine unU ?_
 exact Hid.out g) : Hid p := ⟨h ⟨g⟩⟩
theorem z1_157 {p q : Prop} (g : q) (h : Hid q -> p := by
 intro g
 repeat' (first
 | (refine Axv rfl ?_; intro Kz hKz; simp -implicitDefEqProofs (disch := first | omega | (simp only [qd] <;> omega)) only [xq, ↓xp, qc, Nat.reduceAdd, List.range, List.range.loop, fine, Nat.reduceEqDiff, ↓reduceIte, yielded, reduceCtorEq, Nat.reduceLT, Nat.reduceMul, Nat.reduceSub, one, Nat.reduceLeDiff, Aqj, y55_157, aq, ↓ap, qe0, qe1, qe2, *, -g, -hKz, Option.isNone_some]; try (refine hKz _ _ ?_; clear hKz Kz))
 | (refine Az0 rfl ?_; intro Kz hKz; simp -implicitDefEqProofs (disch := first | omega | (simp only [qd] <;> omega)) only [xq, ↓xp, qc, Nat.reduceAdd, List.range, List.range.loop, fine, Nat.reduceEqDiff, ↓reduceIte, yielded, reduceCtorEq, Nat.reduceLT, Nat.reduceMul, Nat.reduceSub, one, Nat.reduceLeDiff, Aqj, y55_157, aq, ↓ap, qe0, qe1, qe2, *, -g, -hKz, Option.isNone_some]; try (refine hKz _ _ ?_; clear hKz Kz; (try simp only [nq, ↓reduceIte, Nat.reduceEqDiff])))
 | (refine Ajc ?_; (try simp only [nq, ↓reduceIte, Nat.reduceEqDiff]))
 | (refine Azu ?_; (try simp only [nq, ↓reduceIte, Nat.reduceEqDiff]))
 | (refine Ajo ?_; (try simp only [nq, ↓reduceIte, Nat.reduceEqDiff]))
 | (refine Ajp ?_; (try simp only [nq, ↓reduceIte, Nat.reduceEqDiff]))
 | (refine Azz (by simp only [Aq6, Axg, Nat.reduceEqDiff, Nat.reduceLT, ↓reduceIte, *, -g]; rfl) ?_ ?_ <;> (intro hcz; first | (exfalso; simp -implicitDefEqProofs (disch := omega) only [*, -g, bq, reduceCtorEq] at hcz; done) | (simp only [dq, qe3, qe4, qe5, qe6] at hcz) | skip))
 | (refine Az7 ?_)
 | (refine Azt ?_)
 | (refine Axy ?_))
 refine unT ?_; (try (revert hcz; refine unC ?_)); (repeat (revert hcz; refine unD ?_)); first | revert Kz | refine unU ?_
 exact Hid.out g) : Hid p := ⟨h ⟨g⟩⟩
theorem cloneD_spec (m : Md) (H : Hp) (v : Value) (rows : List (List Value)) (hv : SlG 66 4 H v rows) (hl : rows.length <= 1000000) :
  FnX Tryz.prog m 55 #[v] H fun e H' => ∃ w, e = .returned w /\ SlG 66 4 H' w rows /\ H.le H' := by
 obtain ⟨a, n, cap, rfl⟩ := hv.isSlice
 obtain ⟨rfl, hcap⟩ := hv.len
 refine Aql func55 rfl ntmps55 (by simp) ?_
 cases a with
 | none =>
  (refine @unH _ (z0_157 ?_); (try clear hK K); intro K hK hc)
  (refine @unH _ ?_; refine z9 results55 ?_)
  refine ⟨_, rfl, ?_, Hp.le_refl _⟩
  have : rows = [] := by
   cases rows with
   | nil => rfl
   | cons r l => obtain ⟨_, _, _, _, _, h, _⟩ := hv.get (i := 0) (r := r) rfl; cases h
  subst this
  exact ⟨none, 0, rfl, Nat.le_refl _, fun i r hi => by simp at hi⟩
 | some ad =>
  (refine @unH _ (z1_157 ?_); (try clear hK K); intro K hK hc)
  intro nb hnb
  rw [range0]
  generalize hG : Hp.set H nb _ = H1
  have l1 := Aqc hG hnb
  have vnb := Aqb hG
  clear hG
  have h0 := (RowG.new0 (sz := 4) vnb).slG (by decide)
  have hv1 := SlG.le hv l1
  show wpS Tryz.prog (builtin .append #[23, 23] 23 #[false, false] #[.slice (some ⟨nb, 0, none⟩) 0 0, .slice (some ad) rows.length cap]) H1 _ _
  refine Bk6 (by decide) underlying23 sizeOf66 zeroValue66 rfl typeInfo66 (by decide) (by decide) h0 hv1 (by omega) _ _ _ _ (fun v' H2 hr hl2 => ?_)
  rw [List.nil_append] at hr
  obtain ⟨_, _, _, rfl⟩ := hr.isSlice
  replace hr : Aqo _ := hr
  clear hv1 h0 hv
  (refine @unH _ (zU y55_157 ?_); (try clear hK K); intro K hK hc)
  (refine @unH _ ?_; refine z9 results55 ?_)
  exact ⟨_, rfl, hr, Hp.le_trans l1 hl2⟩
def adΦ (H0 : Hp) (sb : Nat) (s : Sm) (n : Ns) (da : Option Addr) (dc : Nat) (ha : Option Addr) (kc : Nat) (na : Option Addr) (nc : Nat) : Nat -> Value -> Hp -> Prop
 | 0 => fun v _ => v = .pointer (some ⟨sb, 0, none⟩)
 | 1 => fun v _ => v = .int .i64 s.places
 | 2 => fun v _ => v = .pointer (some ⟨sb, 1, none⟩)
 | 3 => fun v _ => v = .slice da s.doors.length dc
 | 4 => fun v H => SlG 66 4 H v (s.doors.map Ckc)
 | 5 => fun v _ => v = .pointer (some ⟨sb, 2, none⟩)
 | 6 => fun v _ => v = .slice ha s.hampers.length kc
 | 7 => fun v H => SlI H v s.hampers
 | 8 => fun v _ => v = .pointer (some ⟨sb, 3, none⟩)
 | 9 => fun v _ => v = .slice na s.noses.length nc
 | 10 => fun v _ => v = .int .i64 (s.noses.length : Nat)
 | 11 => fun v _ => v = .int .i64 (s.noses.length : Nat)
 | 12 => fun v _ => v = .slice na s.noses.length s.noses.length
 | 13 => fun v _ => v = .agg #[.int .i64 n.pl, .int .i64 n.hr, .bool n.sm]
 | 14 => fun v H => ∃ b, v = .slice (some ⟨b, 0, none⟩) 1 1 /\ H b = some (true, .cells #[.int .i64 n.pl, .int .i64 n.hr, .bool n.sm] 46 (0, 0))
 | 15 => fun v H => SlG 46 3 H v ((s.noses ++ [n]).map Ck9)
 | 16 => fun v H => ∃ a b c, v = smV s.places a b c /\ SmIn H a b c (withS s n)
 | 17 => fun v H => ∃ b, v = .pointer (some ⟨b, 0, none⟩) /\ H b = some (true, smO 0 (.slice none 0 0) (.slice none 0 0) (.slice none 0 0)) /\ H0 b = none
 | _ => fun _ _ => True
theorem adΦ_le {H0 : Hp} {sb : Nat} {s : Sm} {n : Ns} {da : Option Addr} {dc : Nat} {ha : Option Addr} {kc : Nat} {na : Option Addr} {nc : Nat} : ∀ (k : Nat) (v : Value) (H H' : Hp), adΦ H0 sb s n da dc ha kc na nc k v H -> H.le H' -> adΦ H0 sb s n da dc ha kc na nc k v H'
 | 0, _, _, _, h, _ | 1, _, _, _, h, _ | 2, _, _, _, h, _ | 3, _, _, _, h, _ | 5, _, _, _, h, _ | 6, _, _, _, h, _ | 8, _, _, _, h, _ | 9, _, _, _, h, _ | 10, _, _, _, h, _ | 11, _, _, _, h, _ | 12, _, _, _, h, _ | 13, _, _, _, h, _ => h
 | 4, _, _, _, h, hl => SlG.le h hl
 | 7, _, _, _, h, hl => SlI.le h hl
 | 14, _, _, _, ⟨b, h1, h2⟩, hl => ⟨b, h1, hl _ _ h2⟩
 | 15, _, _, _, h, hl => SlG.le h hl
 | 16, _, _, _, ⟨a, b, c, h1, h2⟩, hl => ⟨a, b, c, h1, h2.le hl⟩
 | 17, _, _, _, ⟨b, h1, h2, h3⟩, hl => ⟨b, h1, hl _ _ h2, h3⟩
 | _ + 18, _, _, _, _, _ => trivial
theorem sAdd_spec (H : Hp) (s : Sm) (dv hv nv : Value) (hs : SmIn H dv hv nv s) (ok : SmOk s) (n : Ns) (hn : NsOk s.places n) (hl : s.noses.length < 4) :
  FnX Tryz.prog (.wg Tryz.prog) 19 #[smV s.places dv hv nv, .agg #[.int .i64 n.pl, .int .i64 n.hr, .bool n.sm]] H fun e H' => ((0 < Azh s /\ Azh (withS s n) = 0) /\ e = .returned (.tuple #[smV 0 (.slice none 0 0) (.slice none 0 0) (.slice none 0 0), .int .i64 9]) ∨ ¬ (0 < Azh s /\ Azh (withS s n) = 0) /\ ∃ a b c, e = .returned (.tuple #[smV s.places a b c, .int .i64 0]) /\ SmIn H' a b c (withS s n)) /\ H.le H' := by
 obtain ⟨da, dc, ha, kc, na, nc, rfl, rfl, rfl, l1, l2, l3⟩ := hs.forms
 have hdl := ok.dl
 have hh1 := ok.h1
 refine Aql func19 rfl ntmps19 (by simp) ?_
 (refine @unH _ (zA y19_157 ?_); (try clear hK K); intro K hK hc)
 (intro sb hsb nb hnb rb hrb; replace hrb : (Hp.set (Hp.set _ sb _) nb _) rb = none := hrb; replace hnb : (Hp.set _ sb _) nb = none := hnb; generalize hG : Hp.set _ sb _ = H1 at hnb hrb ⊢; have lH1 := Aqc hG hsb; have wsb := Aqb hG; clear hG; generalize hG : Hp.set _ nb _ = H2 at hrb ⊢; have lH2 := Aqc hG hnb; have wnb := Aqb hG; have nsbnb := Aqq wsb hnb; replace wsb := lH2 _ _ wsb; clear hG; generalize hG : Hp.set _ rb _ = H3; have lH3 := Aqc hG hrb; have vrb := Aqb hG; have vsb := lH3 _ _ wsb; have vnb := lH3 _ _ wnb; have nsbrb := Aqq wsb hrb; have nnbrb := Aqq wnb hrb; clear hG wsb wnb)
 have lb := Hp.le_trans lH1 (Hp.le_trans lH2 lH3)
 have hrb0 : H rb = none := Hp.le_none (Hp.le_trans lH1 lH2) hrb
 clear lH1 lH2 lH3 hsb hnb hrb
 (refine @unH _ (zU y19_157 ?_); (try clear hK K); intro K hK hc)
 refine (Ak8 _ H3 s _ _ _ (hs.le lb) ok).runs.mono ?_
 rintro _ H4 ⟨rfl, l4⟩
 have lb4 := Hp.le_trans lb l4
 have vsb4 := l4 _ _ vsb
 have vnb4 := l4 _ _ vnb
 have vrb4 := l4 _ _ vrb
 clear lb l4 vsb vnb vrb
 (refine @unH _ (zU y19_157 ?_); (try clear hK K); intro K hK hc)
 refine (Bve _ H4 s.places _ _ _ n (s.noses.length : Nat) hn ok.p1 rfl rfl rfl).runs.mono ?_
 rintro _ H5 ⟨rfl, l5⟩
 have lb5 := Hp.le_trans lb4 l5
 have vsb5 := l5 _ _ vsb4
 have vnb5 := l5 _ _ vnb4
 have vrb5 := l5 _ _ vrb4
 have hs5 := hs.le lb5
 clear lb4 l5 vsb4 vnb4 vrb4
 (refine @unH _ (zU y19_157 ?_); (try clear hK K); intro K hK hc)
 have vrb0 := hrb0
 refine Bjl (fun e => e 2 = .pointer (some ⟨sb, 0, none⟩) /\ e 3 = .pointer (some ⟨nb, 0, none⟩) /\ e 4 = .pointer (some ⟨rb, 0, none⟩) /\ e 5 = .int .i64 0 /\ e 7 = .int .i64 (s.noses.length : Nat)) ⟨rfl, rfl, rfl, rfl, rfl⟩ ?_
 rintro e0 ⟨f2, f3, f4, f5, f7⟩
 refine wpX_glast (adΦ H5 sb s n da dc ha kc na nc) (by kernel_rfl) (by kernel_rfl) adΦ_le ?_; intro K hK
 (refine growAll_cons ?_ ?_; (focus (intro e HX hle he hd; have e1 : e 2 = .pointer (some ⟨sb, 0, none⟩) := (he 2 (by kernel_rfl)).trans f2; clear he hd; refine ⟨by rfl, ?_⟩; (refine @unH _ ?_; refine zX y19_157 ?_); exact ⟨Hp.le_refl _, _, rfl, rfl⟩)))
 (refine growAll_cons ?_ ?_; (focus (intro e HX hle he hd; have vx := hle _ _ vsb5; have e1 : e 31 = _ := hd 0 31 (by kernel_rfl); clear he hd; refine ⟨by rfl, ?_⟩; (refine @unH _ ?_; refine zX y19_157 ?_); exact ⟨Hp.le_refl _, _, rfl, rfl⟩)))
 (refine growAll_cons ?_ ?_; (focus (intro e HX hle he hd; have e1 : e 2 = .pointer (some ⟨sb, 0, none⟩) := (he 2 (by kernel_rfl)).trans f2; clear he hd; refine ⟨by rfl, ?_⟩; (refine @unH _ ?_; refine zX y19_157 ?_); exact ⟨Hp.le_refl _, _, rfl, rfl⟩)))
 (refine growAll_cons ?_ ?_; (focus (intro e HX hle he hd; have vx := hle _ _ vsb5; have e1 : e 33 = _ := hd 2 33 (by kernel_rfl); clear he hd; refine ⟨by rfl, ?_⟩; (refine @unH _ ?_; refine zX y19_157 ?_); exact ⟨Hp.le_refl _, _, rfl, rfl⟩)))
 refine growAll_cons ?_ ?_
 ·intro e HX hle he hd
  have e1 : e 34 = _ := hd 3 34 (by kernel_rfl)
  clear he hd
  refine ⟨by rfl, ?_⟩
  (refine @unH _ ?_; refine zX y19_157 ?_)
  refine (cloneD_spec _ HX _ _ (SlG.le hs5.dd hle) (by rw [List.length_map]; omega)).runs.mono ?_
  rintro _ H' ⟨w, rfl, hw, hl2⟩
  simp -implicitDefEqProofs (disch := omega) only [Ak0, Aq0, Aqp]
  exact ⟨hl2, _, rfl, hw⟩
 (refine growAll_cons ?_ ?_; (focus (intro e HX hle he hd; have e1 : e 2 = .pointer (some ⟨sb, 0, none⟩) := (he 2 (by kernel_rfl)).trans f2; clear he hd; refine ⟨by rfl, ?_⟩; (refine @unH _ ?_; refine zX y19_157 ?_); exact ⟨Hp.le_refl _, _, rfl, rfl⟩)))
 (refine growAll_cons ?_ ?_; (focus (intro e HX hle he hd; have vx := hle _ _ vsb5; have e1 : e 36 = _ := hd 5 36 (by kernel_rfl); clear he hd; refine ⟨by rfl, ?_⟩; (refine @unH _ ?_; refine zX y19_157 ?_); exact ⟨Hp.le_refl _, _, rfl, rfl⟩)))
 refine growAll_cons ?_ ?_
 ·intro e HX hle he hd
  have e1 : e 37 = _ := hd 6 37 (by kernel_rfl)
  clear he hd
  refine ⟨by rfl, ?_⟩
  (refine @unH _ ?_; refine zX y19_157 ?_)
  refine (Czb _ HX _ s.hampers (hs5.hh.le hle) (by omega)).runs.mono ?_
  rintro _ H' ⟨w, rfl, hw⟩
  simp -implicitDefEqProofs (disch := omega) only [Ak0, Aq0, Aqp]
  exact ⟨hw.1.toLe, _, rfl, SlG.ints1 ((rowX_G hw).1.slG (by decide))⟩
 (refine growAll_cons ?_ ?_; (focus (intro e HX hle he hd; have e1 : e 2 = .pointer (some ⟨sb, 0, none⟩) := (he 2 (by kernel_rfl)).trans f2; clear he hd; refine ⟨by rfl, ?_⟩; (refine @unH _ ?_; refine zX y19_157 ?_); exact ⟨Hp.le_refl _, _, rfl, rfl⟩)))
 (refine growAll_cons ?_ ?_; (focus (intro e HX hle he hd; have vx := hle _ _ vsb5; have e1 : e 39 = _ := hd 8 39 (by kernel_rfl); clear he hd; refine ⟨by rfl, ?_⟩; (refine @unH _ ?_; refine zX y19_157 ?_); exact ⟨Hp.le_refl _, _, rfl, rfl⟩)))
 (refine growAll_cons ?_ ?_; (focus (intro e HX hle he hd; have e1 : e 7 = .int .i64 (s.noses.length : Nat) := (he 7 (by kernel_rfl)).trans f7; clear he hd; refine ⟨by rfl, ?_⟩; (refine @unH _ ?_; refine zX y19_157 ?_); exact ⟨Hp.le_refl _, _, rfl, rfl⟩)))
 (refine growAll_cons ?_ ?_; (focus (intro e HX hle he hd; have e1 : e 7 = .int .i64 (s.noses.length : Nat) := (he 7 (by kernel_rfl)).trans f7; clear he hd; refine ⟨by rfl, ?_⟩; (refine @unH _ ?_; refine zX y19_157 ?_); exact ⟨Hp.le_refl _, _, rfl, rfl⟩)))
 refine growAll_cons ?_ ?_
 ·intro e HX hle he hd
  have e1 : e 40 = _ := hd 9 40 (by kernel_rfl)
  have e2 : e 41 = _ := hd 10 41 (by kernel_rfl)
  have e3 : e 42 = _ := hd 11 42 (by kernel_rfl)
  clear he hd
  refine ⟨by rfl, ?_⟩
  (refine @unH _ ?_; refine zX y19_157 ?_)
  exact ⟨Hp.le_refl _, _, rfl, rfl⟩
 (refine growAll_cons ?_ ?_; (focus (intro e HX hle he hd; have vx := hle _ _ vnb5; have e1 : e 3 = .pointer (some ⟨nb, 0, none⟩) := (he 3 (by kernel_rfl)).trans f3; clear he hd; refine ⟨by rfl, ?_⟩; simp -implicitDefEqProofs (disch := first | omega | (simp only [qd] <;> omega)) only [xq, ↓xp, qc, Nat.reduceAdd, List.range, List.range.loop, fine, Nat.reduceEqDiff, ↓reduceIte, yielded, reduceCtorEq, Nat.reduceLT, Nat.reduceMul, Nat.reduceSub, one, Nat.reduceLeDiff, Aqj, y19_157, aq, ↓ap, qe0, qe1, qe2, *, -hK, Av7 vx]; exact ⟨Hp.le_refl _, _, rfl, rfl⟩)))
 refine growAll_cons ?_ ?_
 ·intro e HX hle he hd
  have e1 : e 44 = _ := hd 13 44 (by kernel_rfl)
  clear he hd
  refine ⟨by rfl, ?_⟩
  (refine @unH _ ?_; refine zX y19_157 ?_)
  intro b hb
  exact ⟨Hp.le_set hb, _, rfl, b, rfl, Axp⟩
 refine growAll_cons ?_ ?_
 ·intro e HX hle he hd
  have e1 : e 43 = _ := hd 12 43 (by kernel_rfl)
  obtain ⟨g, e2, vg⟩ := hd 14 45 (by kernel_rfl)
  clear he hd
  refine ⟨by rfl, ?_⟩
  (refine @unH _ ?_; refine zX y19_157 ?_)
  have hn0 := SlG.hi (SlG.le hs5.nn hle) (k := s.noses.length) (Nat.le_refl _)
  rw [List.take_of_length_le (by rw [List.length_map]; exact Nat.le_refl _)] at hn0
  refine Bk6 (by decide) underlying24 sizeOf46 zeroValue46 rfl typeInfo46 (by decide) (by decide) hn0 (slG_one (ws := Ck9 n) rfl vg) (by omega) _ _ _ _ (fun v' H' hr hl2 => ?_)
  (refine @unH _ ?_; refine zX y19_157 ?_)
  exact ⟨_, rfl, by show SlG _ _ _ _ _; rw [List.map_append]; exact hr⟩
 refine growAll_cons ?_ ?_
 ·intro e HX hle he hd
  have e4 : e 32 = _ := hd 1 32 (by kernel_rfl)
  have g1 : SlG 66 4 HX (e 35) _ := hd 4 35 (by kernel_rfl)
  have g2 : SlI HX (e 38) _ := hd 7 38 (by kernel_rfl)
  have g3 : SlG 46 3 HX (e 46) _ := hd 15 46 (by kernel_rfl)
  clear he hd
  generalize h8 : e 35 = v8 at *
  generalize h11 : e 38 = v11 at *
  generalize h15 : e 46 = v15 at *
  have hg : SmIn HX v8 v11 v15 (withS s n) := ⟨g1, g2, g3⟩
  obtain ⟨_, _, _, rfl⟩ := g1.isSlice
  obtain ⟨_, _, _, rfl⟩ := g2.isSlice
  obtain ⟨_, _, _, rfl⟩ := g3.isSlice
  replace hg : Aqo _ := hg
  clear g1 g2 g3
  refine ⟨by rfl, ?_⟩
  (refine @unH _ ?_; refine zX y19_157 ?_)
  exact ⟨Hp.le_refl _, _, rfl, _, _, _, rfl, hg⟩
 refine growAll_cons ?_ ?_
 ·intro e HX hle he hd
  clear he hd
  refine ⟨by rfl, ?_⟩
  (refine @unH _ ?_; refine zX y19_157 ?_)
  intro b hb
  exact ⟨Hp.le_set hb, _, rfl, b, rfl, Axp, Hp.le_none hle hb⟩
 refine growAll_one ?_
 intro e HX hle he hd
 obtain ⟨va, vb, vc, e47, hg⟩ := hd 16 47 (by kernel_rfl)
 obtain ⟨tb, e9, vtb, htb⟩ := hd 17 9 (by kernel_rfl)
 have e2 : e 2 = .pointer (some ⟨sb, 0, none⟩) := (he 2 (by kernel_rfl)).trans f2
 have e4 : e 4 = .pointer (some ⟨rb, 0, none⟩) := (he 4 (by kernel_rfl)).trans f4
 have vsb := hle _ _ vsb5
 have vrb := hle _ _ vrb5
 clear he hd
 have hgf := hg
 obtain ⟨_, _, _, _, _, _, rfl, rfl, rfl, -, -, -⟩ := hgf.forms
 replace hg : Aqo _ := hg
 clear hgf
 refine ⟨by rfl, ?_⟩
 (refine @unH _ ?_; refine zX y19_157 ?_)
 refine hK _ _ ?_
 clear hK K
 generalize hG : Hp.set HX tb _ = H6
 have vtb6 := Aqb hG
 have nts : tb ≠ sb := fun e => by rw [e, vsb5] at htb; cases htb
 have ntr : tb ≠ rb := fun e => by rw [e, vrb5] at htb; cases htb
 have vsb6 : H6 sb = HX sb := by rw [<- hG, Aqv (Ne.symm nts)]
 have vrb6 : H6 rb = HX rb := by rw [<- hG, Aqv (Ne.symm ntr)]
 rw [vsb] at vsb6
 rw [vrb] at vrb6
 have hg6 : SmIn H6 _ _ _ (withS s n) := hG ▸ (show SmIn HX _ _ _ (withS s n) from hg).put vtb _
 have hs6 : SmIn H6 _ _ _ s := hG ▸ (hs5.le hle).put vtb _
 have lb6 : H.le H6 := hG ▸ Azx (Hp.le_trans lb5 hle) (Hp.le_none lb5 htb)
 clear hG hg hs5 hle lb5 vsb vrb vtb vsb5 vrb5 vnb5 htb
 replace hg6 : Aqo _ := hg6
 replace hs6 : Aqo _ := hs6
 (try refine @unH _ (zQ ?_))
 refine Bjl (fun e => e 2 = .pointer (some ⟨sb, 0, none⟩) /\ e 4 = .pointer (some ⟨rb, 0, none⟩) /\ e 9 = .pointer (some ⟨tb, 0, none⟩)) ⟨e2, e4, e9⟩ ?_
 clear e2 e4 e9 e47 f2 f3 f4 f5 f7 e e0
 rintro e ⟨e2, e4, e9⟩
 have hC1 := Cvl H6 s _ _ _ hs6 ok
 have hC2 := fun H (l : H6.le H) => Cvl H (withS s n) _ _ _ ((show SmIn H6 _ _ _ (withS s n) from hg6).le l) (withS_ok ok hn hl)
 replace hC1 : Aqo _ := hC1
 replace hC2 : Aqo _ := hC2
 refine Axy (Axy (wpX_rz 7 (by rfl) ?_))
 intro K hK ops hOz
 (iterate 2 (refine @unH _ ?_; refine zR y19_157 ?_))
 refine (show FnX _ _ _ _ _ _ from hC1).runs.mono ?_
 rintro _ H7 ⟨rfl, l7⟩
 have vtb7 := l7 _ _ vtb6
 have vrb7 := l7 _ _ vrb6
 have lb7 := Hp.le_trans lb6 l7
 have hg7 := (show SmIn H6 _ _ _ (withS s n) from hg6).le l7
 by_cases hcs : 0 < Azh s
 ·rw [decide_eq_true hcs]
  replace hg7 : Aqo _ := hg7
  clear vtb6 vrb6 lb6 hC1
  simp -implicitDefEqProofs (disch := omega) only [Ak0, Aq0, Aqp]
  (iterate 3 (refine @unH _ ?_; refine zR y19_157 ?_))
  refine ((show ∀ H, _ -> _ from hC2) H7 l7).runs.mono ?_
  rintro _ H8 ⟨rfl, l8⟩
  have vtb8 := l8 _ _ vtb7
  have vrb8 := l8 _ _ vrb7
  have lb8 := Hp.le_trans lb7 l8
  have hg8 := (show SmIn H7 _ _ _ (withS s n) from hg7).le l8
  clear hC2 vtb7 vrb7 lb7 hg7 l7 l8
  replace hg8 : Aqo _ := hg8
  by_cases hcn : 0 < Azh (withS s n)
  ·rw [decide_eq_true hcn]
   simp -implicitDefEqProofs (disch := omega) only [Ak0, Aq0, Aqp]
   (iterate 2 (refine @unH _ ?_; refine zR y19_157 ?_))
   (refine RZ_nil ?_; refine hK _ _ ?_; clear hK K; (try simp only [nq, ↓reduceIte, Nat.reduceEqDiff]))
   (refine @unH _ (zA y19_157 ?_); (try clear hK K); intro K hK hc)
   (refine Axt ?_; (try simp only [nq, ↓reduceIte, Nat.reduceEqDiff]); rw [Aq7, results_cell_tmp results19 (by decide) (by decide) (b := rb) (o := 0) ?hcell underlying26 rfl sizeOf26]; (case hcell => exact e4); simp -implicitDefEqProofs (disch := first | omega | (simp only [qd] <;> omega)) only [xq, ↓xp, qc, Nat.reduceAdd, List.range, List.range.loop, fine, Nat.reduceEqDiff, ↓reduceIte, yielded, reduceCtorEq, Nat.reduceLT, Nat.reduceMul, Nat.reduceSub, one, Nat.reduceLeDiff, Aqj, y19_157, Axj, List.extract_toArray])
   have hg8' : SmIn H8 _ _ _ (withS s n) := hg8
   exact ⟨.inr ⟨by omega, _, _, _, rfl, hg8'.put vrb8 _⟩, Azx lb8 hrb0⟩
  ·rw [decide_eq_false hcn]
   simp -implicitDefEqProofs (disch := omega) only [Ak0, Aq0, Aqp]
   (iterate 2 (refine @unH _ ?_; refine zR y19_157 ?_))
   (refine RZ_nil ?_; refine hK _ _ ?_; clear hK K; (try simp only [nq, ↓reduceIte, Nat.reduceEqDiff]))
   (refine @unH _ (zA y19_157 ?_); (try clear hK K); intro K hK hc)
   (refine Axt ?_; (try simp only [nq, ↓reduceIte, Nat.reduceEqDiff]); rw [Aq7, results_cell_tmp results19 (by decide) (by decide) (b := rb) (o := 0) ?hcell underlying26 rfl sizeOf26]; (case hcell => exact e4); simp -implicitDefEqProofs (disch := first | omega | (simp only [qd] <;> omega)) only [xq, ↓xp, qc, Nat.reduceAdd, List.range, List.range.loop, fine, Nat.reduceEqDiff, ↓reduceIte, yielded, reduceCtorEq, Nat.reduceLT, Nat.reduceMul, Nat.reduceSub, one, Nat.reduceLeDiff, Aqj, y19_157, Axj, List.extract_toArray])
   exact ⟨.inl ⟨hcs, by omega⟩, Azx lb8 hrb0⟩
 ·rw [decide_eq_false hcs]
  replace hg7 : Aqo _ := hg7
  clear vtb6 vrb6 lb6 hC1 hC2
  simp -implicitDefEqProofs (disch := omega) only [Ak0, Aq0, Aqp]
  (iterate 5 (refine @unH _ ?_; refine zR y19_157 ?_))
  (refine RZ_nil ?_; refine hK _ _ ?_; clear hK K; (try simp only [nq, ↓reduceIte, Nat.reduceEqDiff]))
  (refine @unH _ (zA y19_157 ?_); (try clear hK K); intro K hK hc)
  (refine Axt ?_; (try simp only [nq, ↓reduceIte, Nat.reduceEqDiff]); rw [Aq7, results_cell_tmp results19 (by decide) (by decide) (b := rb) (o := 0) ?hcell underlying26 rfl sizeOf26]; (case hcell => exact e4); simp -implicitDefEqProofs (disch := first | omega | (simp only [qd] <;> omega)) only [xq, ↓xp, qc, Nat.reduceAdd, List.range, List.range.loop, fine, Nat.reduceEqDiff, ↓reduceIte, yielded, reduceCtorEq, Nat.reduceLT, Nat.reduceMul, Nat.reduceSub, one, Nat.reduceLeDiff, Aqj, y19_157, Axj, List.extract_toArray])
  have hg7' : SmIn H7 _ _ _ (withS s n) := hg7
  exact ⟨.inr ⟨by omega, _, _, _, rfl, hg7'.put vrb7 _⟩, Azx lb7 hrb0⟩
end Go.Proofs.YtnfnaehonkbknaaGreatDoor
end
section
namespace Go.Proofs.YtnfnaehonkbknaaGreatDoor
open Go Go.X Go.Extern Go.Proofs.Tryz
def y74_169 := aN @Cke (aN @Dza (aN (fun H => Bwu (H := H) underlying103) (aN (fun H => Bjs (H := H) underlying103) (aN (fun H => Bwv (H := H) underlying103) (aN (fun H => Bju (H := H) underlying103) (aN (fun H => Bwu (H := H) underlying20) (aN (fun H => Bjs (H := H) underlying20) (aN (fun H => Bwv (H := H) underlying20) (aN (fun H => Bju (H := H) underlying20) (aN (fun H => Cyt (H := H) underlying9 rfl) (aN (fun H => Aqs (H := H) (P := Tryz.prog) (h := zeroValue152)) (aN (fun H => Aqr (H := H) sizeOf152) (aN @Dwi (aN (fun H => Aqi (H := H) underlying155 rfl) @callF84))))))))))))))
def y84_169 := aN @Dwi (aN @Cke (aN @Dza (aN (fun H => Bwu (H := H) underlying103) (aN (fun H => Bjs (H := H) underlying103) (aN (fun H => Bwv (H := H) underlying103) (aN (fun H => Bju (H := H) underlying103) (aN (fun H => Axe (H := H) underlying192) (aN (fun H => Aqz (H := H) underlying192 sizeOf103) (aN (fun H => Aqi (H := H) underlying103 rfl) @callF84)))))))))
theorem x_valueOfPN (a : Addr) (H : Hp) (K : Value -> Hp -> Prop) (E : Value -> Hp -> Prop) : wpS Tryz.prog (ReflectliteValue.unpack (.iface 133 (.pointer (some a)))) H K E = ∀ b, H b = none -> K (.agg #[.pointer (some ⟨1, 133, none⟩), .pointer (some ⟨b, 0, none⟩), .int .u64 150]) (H.set b (.cells #[.pointer (some a)] 133 (0, 0))) := by kernel_rfl
theorem x_typeN (a : Addr) (H : Hp) (K : Value -> Hp -> Prop) (E : Value -> Hp -> Prop) : wpS Tryz.prog (ReflectliteValue.methodAny (ReflectliteValue.valueError "reflectlite.Value.Type" 0) (fun t _ _ _ => ReflectliteType.toType t) #[.agg #[.pointer (some ⟨1, 133, none⟩), .pointer (some a), .int .u64 150]]) H K E = K (.iface 181 (.agg #[.pointer (some ⟨1, 133, none⟩)])) H := by kernel_rfl
theorem x_valueOfVN (c n : Int) (H : Hp) (K : Value -> Hp -> Prop) (E : Value -> Hp -> Prop) : wpS Tryz.prog (ReflectliteValue.unpack (.iface 131 (.agg #[.int .i64 c, .int .i64 n]))) H K E = ∀ b, H b = none -> K (.agg #[.pointer (some ⟨1, 131, none⟩), .pointer (some ⟨b, 0, none⟩), .int .u64 153]) (H.set b (.cells #[.int .i64 c, .int .i64 n] 131 (0, 0))) := by kernel_rfl
theorem x_kindPN (H : Hp) (K : Value -> Hp -> Prop) (E : Value -> Hp -> Prop) : wpS Tryz.prog ((ReflectliteType.abiMethod fun t => do pure (.int .u8 (<- Rtype.kind t))) #[.pointer (some ⟨1, 133, none⟩)]) H K E = K (.int .u8 22) H := by kernel_rfl
theorem x_kindVN (H : Hp) (K : Value -> Hp -> Prop) (E : Value -> Hp -> Prop) : wpS Tryz.prog ((ReflectliteType.abiMethod fun t => do pure (.int .u8 (<- Rtype.kind t))) #[.pointer (some ⟨1, 131, none⟩)]) H K E = K (.int .u8 25) H := by kernel_rfl
theorem x_elemN (H : Hp) (K : Value -> Hp -> Prop) (E : Value -> Hp -> Prop) : wpS Tryz.prog (ReflectliteType.method ReflectliteType.elem #[.agg #[.pointer (some ⟨1, 133, none⟩)]]) H K E = K (.iface 181 (.agg #[.pointer (some ⟨1, 131, none⟩)])) H := by kernel_rfl
theorem x_implN (H : Hp) (K : Value -> Hp -> Prop) (E : Value -> Hp -> Prop) : wpS Tryz.prog (ReflectliteType.relation "Implements" ReflectliteType.implements_ #[.agg #[.pointer (some ⟨1, 131, none⟩)], .iface 181 (.agg #[.pointer (some ⟨1, 103, none⟩)])]) H K E = K (.bool true) H := by kernel_rfl
theorem x_typeOfN (v : Value) (H : Hp) (K : Value -> Hp -> Prop) (E : Value -> Hp -> Prop) : wpS Tryz.prog (ReflectliteType.typeOf #[.iface 131 v]) H K E = K (.iface 181 (.agg #[.pointer (some ⟨1, 131, none⟩)])) H := by kernel_rfl
theorem x_assignN (H : Hp) (K : Value -> Hp -> Prop) (E : Value -> Hp -> Prop) : wpS Tryz.prog (ReflectliteType.relation "AssignableTo" ReflectliteType.assignableTo #[.agg #[.pointer (some ⟨1, 131, none⟩)], .iface 181 (.agg #[.pointer (some ⟨1, 131, none⟩)])]) H K E = K (.bool true) H := by kernel_rfl
theorem x_partsPN (a : Addr) (H : Hp) (K : Option (TypeId × Addr × Nat) -> Hp -> Prop) (E : Value -> Hp -> Prop) : wpS Tryz.prog (ReflectliteValue.parts (.agg #[.pointer (some ⟨1, 133, none⟩), .pointer (some a), .int .u64 150])) H K E = K (some (133, a, 150)) H := by kernel_rfl
theorem x_partsAN (a : Addr) (H : Hp) (K : Option (TypeId × Addr × Nat) -> Hp -> Prop) (E : Value -> Hp -> Prop) : wpS Tryz.prog (ReflectliteValue.parts (.agg #[.pointer (some ⟨1, 131, none⟩), .pointer (some a), .int .u64 409])) H K E = K (some (131, a, 409)) H := by kernel_rfl
theorem x_partsVN (a : Addr) (H : Hp) (K : Option (TypeId × Addr × Nat) -> Hp -> Prop) (E : Value -> Hp -> Prop) : wpS Tryz.prog (ReflectliteValue.parts (.agg #[.pointer (some ⟨1, 131, none⟩), .pointer (some a), .int .u64 153])) H K E = K (some (131, a, 153)) H := by kernel_rfl
theorem x_elemOfN (H : Hp) (K : Option TypeId -> Hp -> Prop) (E : Value -> Hp -> Prop) : wpS Tryz.prog (Rtype.elem? 133) H K E = K (some 131) H := by kernel_rfl
theorem x_mkN (p : Addr) (H : Hp) (K : Value -> Hp -> Prop) (E : Value -> Hp -> Prop) : wpS Tryz.prog (ReflectliteValue.mk 131 p ReflectliteValue.flagAddr) H K E = K (.agg #[.pointer (some ⟨1, 131, none⟩), .pointer (some p), .int .u64 409]) H := by kernel_rfl
theorem x_directN (H : Hp) (K : Bool -> Hp -> Prop) (E : Value -> Hp -> Prop) : wpS Tryz.prog (Rtype.directlyAssignable 131 131) H K E = K true H := by kernel_rfl
theorem x_isNilN (a p : Addr) (H : Hp) (h : H.cell a = some (.pointer (some p))) (K : Value -> Hp -> Prop) (E : Value -> Hp -> Prop) : wpS Tryz.prog (ReflectliteValue.method (ReflectliteValue.valueError "reflectlite.Value.IsNil" 0) ReflectliteValue.isNil #[.agg #[.pointer (some ⟨1, 133, none⟩), .pointer (some a), .int .u64 150]]) H K E = K (.bool false) H := by
 rw [x_method, Aqa, x_partsPN]
 simp only []
 unfold ReflectliteValue.isNil
 rw [if_neg (by decide)]
 rw [Aqa, Ck6 underlying133 rfl]
 simp only [h, Option.some.injEq, exists_eq_left']
 rfl
theorem x_elemVN (a p : Addr) (H : Hp) (h : H.cell a = some (.pointer (some p))) (K : Value -> Hp -> Prop) (E : Value -> Hp -> Prop) : wpS Tryz.prog (ReflectliteValue.method (ReflectliteValue.valueError "reflectlite.Value.Elem" 0) ReflectliteValue.elem #[.agg #[.pointer (some ⟨1, 133, none⟩), .pointer (some a), .int .u64 150]]) H K E = K (.agg #[.pointer (some ⟨1, 131, none⟩), .pointer (some p), .int .u64 409]) H := by
 rw [x_method, Aqa, x_partsPN]
 simp only []
 unfold ReflectliteValue.elem
 rw [if_neg (by decide)]
 simp only []
 rw [Aqa, Ck6 underlying133 rfl]
 simp only [h, Option.some.injEq, exists_eq_left']
 rw [Aqa, x_elemOfN]
 exact x_mkN p H K E
theorem x_setN (wb b : Nat) (c n c0 n0 : Int) (H : Hp) (hb : H b = some (true, .cells #[.int .i64 c, .int .i64 n] 131 (0, 0))) (hw : H wb = some (true, .cells #[.int .i64 c0, .int .i64 n0] 131 (0, 0))) (K : Value -> Hp -> Prop) (E : Value -> Hp -> Prop)
  (hK : K (.tuple #[]) (H.set wb (.cells #[.int .i64 c, .int .i64 n] 131 (0, 0)))) :
  wpS Tryz.prog (ReflectliteValue.set #[.agg #[.pointer (some ⟨1, 131, none⟩), .pointer (some ⟨wb, 0, none⟩), .int .u64 409], .agg #[.pointer (some ⟨1, 131, none⟩), .pointer (some ⟨b, 0, none⟩), .int .u64 153]]) H K E := by
 rw [x_setE, Aqa, x_partsAN, Aqa, x_partsVN]
 simp only []
 rw [if_neg (by decide)]
 unfold loadVar storeVar
 rw [Aqa, Aqa, Akf underlying131]
 rw [show aggB _ = true from rfl, if_pos rfl, Aqa, Aqw sizeOf131, Aqa, Azg (n := 2) (cs := [.int .i64 c, .int .i64 n]) rfl (fun j u hj => by
  rw [Nat.zero_add]
  match j, hj with
  | 0, hj => simp at hj; subst hj; simp [cell_of hb]
  | 1, hj => simp at hj; subst hj; simp [cell_of hb]
  | j + 2, hj => simp at hj)]
 rw [Aqd, Aqa, x_directN]
 simp only [if_true]
 rw [Aqa, Aqa, Aqw sizeOf131]
 rw [if_neg (by simp [Value.cells])]
 refine Akr wb 0 _ _ [.int .i64 c, .int .i64 n] 0 _ _ _ (by simp [one]) hw (by simp) ?_
 rw [show over #[.int .i64 c0, .int .i64 n0] (0 + 0) [.int .i64 c, .int .i64 n] = #[.int .i64 c, .int .i64 n] by rw [Nat.add_zero, <- Ayk (by simp), <- Ayk (by simp), Bkh]; rfl]
 exact hK
theorem as_inN (m : Md) (H : Hp) (c n c0 n0 : Int) (wb ab : Nat) (hw : H wb = some (true, .cells #[.int .i64 c0, .int .i64 n0] 131 (0, 0))) (ha : H ab = some (true, .cells #[.pointer (some ⟨wb, 0, none⟩)] 133 (0, 0))) :
  FnX Tryz.prog m 84 #[.iface 131 (.agg #[.int .i64 c, .int .i64 n]), .iface 133 (.pointer (some ⟨wb, 0, none⟩)), .agg #[.pointer (some ⟨1, 133, none⟩), .pointer (some ⟨ab, 0, none⟩), .int .u64 150], .iface 181 (.agg #[.pointer (some ⟨1, 131, none⟩)])] H
   fun e H' => e = .returned (.bool true) /\ H' wb = some (true, .cells #[.int .i64 c, .int .i64 n] 131 (0, 0)) /\ ∀ x u, x ≠ wb -> H x = some u -> H' x = some u := by
 refine Aql func84 rfl ntmps84 (by simp) ?_
 (refine @unH _ (zAi y84_169 ?_); (try clear hK K); intro K hK hc)
 (intro tb htb; generalize hG : Hp.set _ tb _ = H1; have lH1 := Aqc hG htb; have vtb := Aqb hG; clear hG)
 have hw1 := lH1 _ _ hw
 have ha1 := lH1 _ _ ha
 have l1 := lH1
 clear lH1 htb
 (refine @unH _ (zUi y84_169 ?_); (try clear hK K); intro K hK hc)
 refine Axh (fun w a' H' => ∃ e, w = 0 /\ a' = act 62 e [] /\ e 0 = .iface 131 (.agg #[.int .i64 c, .int .i64 n]) /\ e 3 = .iface 181 (.agg #[.pointer (some ⟨1, 131, none⟩)]) /\ e 6 = .pointer (some ⟨tb, 0, none⟩) /\ H' = H1) (n := 0) ?_ ?_
 ·exact ⟨_, rfl, rfl, rfl, rfl, rfl, rfl⟩
 rintro w a' H' ⟨e, rfl, rfl, e0, e3, e6, hH⟩
 rw [hH]; clear hH H'
 refine Azt ?_
 refine Axy ?_
 refine Axy ?_
 refine Az0 rfl ?_; intro K hK
 simp -implicitDefEqProofs (maxSteps := 3000000) (disch := first | omega | (simp only [qd] <;> omega)) only [xq, ↓xp, qc, Nat.reduceAdd, List.range, List.range.loop, fine, Nat.reduceEqDiff, ↓reduceIte, yielded, reduceCtorEq, Nat.reduceLT, Nat.reduceMul, Nat.reduceSub, one, Nat.reduceLeDiff, Aqj, y84_169, ↓Aka, aq, ↓ap, qe0, qe1, qe2, ↓ld_O, ldO_some, ylK_undef, gateL_no, *, -hK, ↓Aka, cf_TypeOf, x_typeOfN, meth_AssignableTo, cf_AssignableTo, x_assignN, cf_ValueOf, x_valueOfPN, x_valueOfVN, cf_Type, x_typeN, cf_IsNil, cf_Kind, x_kindPN, x_kindVN, cf_TElem, x_elemN, cf_Implements, x_implN, meth_Kind, meth_Elem, meth_Implements, cf_VElem, cf_Set]
 refine hK _ _ ?_; clear hK K
 (try refine @unH _ (zQ ?_))
 refine Azz (by simp only [Aq6, Axg, Nat.reduceEqDiff, Nat.reduceLT, ↓reduceIte]; rfl) ?_ ?_
 rotate_left
 ·intro hc; cases hc
 intro _
 refine Axy ?_
 refine Az0 rfl ?_; intro K hK
 simp -implicitDefEqProofs (maxSteps := 3000000) (disch := first | omega | (simp only [qd] <;> omega)) only [xq, ↓xp, qc, Nat.reduceAdd, List.range, List.range.loop, fine, Nat.reduceEqDiff, ↓reduceIte, yielded, reduceCtorEq, Nat.reduceLT, Nat.reduceMul, Nat.reduceSub, one, Nat.reduceLeDiff, Aqj, y84_169, ↓Aka, aq, ↓ap, qe0, qe1, qe2, ↓ld_O, ldO_some, ylK_undef, gateL_no, *, -hK, ↓Aka, cf_TypeOf, x_typeOfN, meth_AssignableTo, cf_AssignableTo, x_assignN, cf_ValueOf, x_valueOfPN, x_valueOfVN, cf_Type, x_typeN, cf_IsNil, cf_Kind, x_kindPN, x_kindVN, cf_TElem, x_elemN, cf_Implements, x_implN, meth_Kind, meth_Elem, meth_Implements, cf_VElem, cf_Set]
 rw [x_elemVN ⟨ab, 0, none⟩ ⟨wb, 0, none⟩ H1 (by simp [cell_of ha1])]
 show wpS _ (ReflectliteValue.unpack (.iface 131 (.agg #[.int .i64 c, .int .i64 n]))) _ _ _
 rw [x_valueOfVN]
 intro b hb
 have l2 := Hp.le_trans l1 (Hp.le_set (o := .cells #[.int .i64 c, .int .i64 n] 131 (0, 0)) hb)
 have hwb : (H1.set b (.cells #[.int .i64 c, .int .i64 n] 131 (0, 0))) wb = _ := (Aqv (Aqq hw1 hb)).trans hw1
 refine x_setN wb b c n c0 n0 _ Axp hwb _ _ ?_
 refine hK _ _ ?_; clear hK K
 (try refine @unH _ (zQ ?_))
 (refine @unH _ (zAi y84_169 ?_); (try clear hK K); intro K hK hc)
 (refine @unH _ ?_; refine z9 results84 ?_)
 exact ⟨by trivial, Axp, fun x u hx hu => (Aqv hx).trans (l2 _ _ hu)⟩
theorem as_hitN (m : Md) (H : Hp) (c n c0 n0 : Int) (wb : Nat) (q : Bool) (cg : Array Value) (eg : TypeId) (fg : Nat × Nat) (hg : H 0 = some (q, .cells cg eg fg)) (hg0 : cg[0]? = some (.iface 181 (.agg #[.pointer (some ⟨1, 103, none⟩)])))
  (hw : H wb = some (true, .cells #[.int .i64 c0, .int .i64 n0] 131 (0, 0))) :
  FnX Tryz.prog m 74 #[.iface 131 (.agg #[.int .i64 c, .int .i64 n]), .iface 133 (.pointer (some ⟨wb, 0, none⟩))] H
   fun e H' => e = .returned (.bool true) /\ H' wb = some (true, .cells #[.int .i64 c, .int .i64 n] 131 (0, 0)) /\ ∀ x u, x ≠ wb -> H x = some u -> H' x = some u := by
 refine Aql func74 rfl ntmps74 (by simp) ?_
 (refine @unH _ (zAi y74_169 ?_); (try clear hK K); intro K hK hc)
 rw [cf_ValueOf]
 show wpS _ (ReflectliteValue.unpack (.iface 133 (.pointer (some ⟨wb, 0, none⟩)))) _ _ _
 rw [x_valueOfPN]
 intro ab hab
 generalize hG : Hp.set H ab _ = H1
 have l1 := Aqc hG hab
 have vab := Aqb hG
 clear hG
 simp -implicitDefEqProofs (maxSteps := 3000000) (disch := first | omega | (simp only [qd] <;> omega)) only [xq, ↓xp, qc, Nat.reduceAdd, List.range, List.range.loop, fine, Nat.reduceEqDiff, ↓reduceIte, yielded, reduceCtorEq, Nat.reduceLT, Nat.reduceMul, Nat.reduceSub, one, Nat.reduceLeDiff, Aqj, y74_169, ↓Aka, aq, ↓ap, qe0, qe1, qe2, ↓ld_O, ldO_some, ylK_undef, gateL_no, *, -hK]
 (intro sb hsb; generalize hG : Hp.set _ sb _ = H2; have lH2 := Aqc hG hsb; have vsb := Aqb hG; clear hG)
 have l2 := Hp.le_trans l1 lH2
 have vab2 := lH2 _ _ vab
 have hw2 := l2 _ _ hw
 have hg2 := l2 _ _ hg
 clear l1 lH2 vab hab hsb
 refine hK _ _ ?_; clear hK K
 (try refine @unH _ (zQ ?_))
 refine Axy ?_
 refine Az0 rfl ?_; intro K hK
 simp -implicitDefEqProofs (maxSteps := 3000000) (disch := first | omega | (simp only [qd] <;> omega)) only [xq, ↓xp, qc, Nat.reduceAdd, List.range, List.range.loop, fine, Nat.reduceEqDiff, ↓reduceIte, yielded, reduceCtorEq, Nat.reduceLT, Nat.reduceMul, Nat.reduceSub, one, Nat.reduceLeDiff, Aqj, y74_169, ↓Aka, aq, ↓ap, qe0, qe1, qe2, ↓ld_O, ldO_some, ylK_undef, gateL_no, *, -hK, ↓Aka, cf_TypeOf, x_typeOfN, meth_AssignableTo, cf_AssignableTo, x_assignN, cf_Type, x_typeN, cf_IsNil, cf_Kind, x_kindPN, x_kindVN, cf_TElem, x_elemN, cf_Implements, x_implN, meth_Kind, meth_Elem, meth_Implements]
 refine hK _ _ ?_; clear hK K
 (try refine @unH _ (zQ ?_))
 refine Axy ?_
 refine Axy ?_
 refine Az0 rfl ?_; intro K hK
 simp -implicitDefEqProofs (maxSteps := 3000000) (disch := first | omega | (simp only [qd] <;> omega)) only [xq, ↓xp, qc, Nat.reduceAdd, List.range, List.range.loop, fine, Nat.reduceEqDiff, ↓reduceIte, yielded, reduceCtorEq, Nat.reduceLT, Nat.reduceMul, Nat.reduceSub, one, Nat.reduceLeDiff, Aqj, y74_169, ↓Aka, aq, ↓ap, qe0, qe1, qe2, ↓ld_O, ldO_some, ylK_undef, gateL_no, *, -hK, ↓Aka, cf_TypeOf, x_typeOfN, meth_AssignableTo, cf_AssignableTo, x_assignN, cf_Type, x_typeN, cf_IsNil, cf_Kind, x_kindPN, x_kindVN, cf_TElem, x_elemN, cf_Implements, x_implN, meth_Kind, meth_Elem, meth_Implements]
 rw [x_isNilN ⟨ab, 0, none⟩ ⟨wb, 0, none⟩ H2 (by simp [cell_of vab2])]
 refine hK _ _ ?_; clear hK K
 (try refine @unH _ (zQ ?_))
 (refine Azz (by simp only [Aq6, Axg, Nat.reduceEqDiff, Nat.reduceLT, ↓reduceIte]; rfl) ?_ ?_ <;> (intro hc; first | (cases hc; done) | skip))
 (try refine @unH _ (zQ ?_))
 refine Ajc ?_
 (try refine @unH _ (zQ ?_))
 refine Axy ?_
 refine Az0 rfl ?_; intro K hK
 simp -implicitDefEqProofs (maxSteps := 3000000) (disch := first | omega | (simp only [qd] <;> omega)) only [xq, ↓xp, qc, Nat.reduceAdd, List.range, List.range.loop, fine, Nat.reduceEqDiff, ↓reduceIte, yielded, reduceCtorEq, Nat.reduceLT, Nat.reduceMul, Nat.reduceSub, one, Nat.reduceLeDiff, Aqj, y74_169, ↓Aka, aq, ↓ap, qe0, qe1, qe2, ↓ld_O, ldO_some, ylK_undef, gateL_no, *, -hK, ↓Aka, cf_TypeOf, x_typeOfN, meth_AssignableTo, cf_AssignableTo, x_assignN, cf_Type, x_typeN, cf_IsNil, cf_Kind, x_kindPN, x_kindVN, cf_TElem, x_elemN, cf_Implements, x_implN, meth_Kind, meth_Elem, meth_Implements]
 refine hK _ _ ?_; clear hK K
 (try refine @unH _ (zQ ?_))
 refine Axy ?_
 refine Axy ?_
 refine Az0 rfl ?_; intro K hK
 simp -implicitDefEqProofs (maxSteps := 3000000) (disch := first | omega | (simp only [qd] <;> omega)) only [xq, ↓xp, qc, Nat.reduceAdd, List.range, List.range.loop, fine, Nat.reduceEqDiff, ↓reduceIte, yielded, reduceCtorEq, Nat.reduceLT, Nat.reduceMul, Nat.reduceSub, one, Nat.reduceLeDiff, Aqj, y74_169, ↓Aka, aq, ↓ap, qe0, qe1, qe2, ↓ld_O, ldO_some, ylK_undef, gateL_no, *, -hK, eval_global, Aqi underlying155 rfl, ↓Aka, cf_TypeOf, x_typeOfN, meth_AssignableTo, cf_AssignableTo, x_assignN, cf_Type, x_typeN, cf_IsNil, cf_Kind, x_kindPN, x_kindVN, cf_TElem, x_elemN, cf_Implements, x_implN, meth_Kind, meth_Elem, meth_Implements]
 refine hK _ _ ?_; clear hK K
 (try refine @unH _ (zQ ?_))
 (refine Azz (by simp only [Aq6, Axg, Nat.reduceEqDiff, Nat.reduceLT, ↓reduceIte]; rfl) ?_ ?_ <;> (intro hc; first | (cases hc; done) | skip))
 (try refine @unH _ (zQ ?_))
 refine Ajc ?_
 (try refine @unH _ (zQ ?_))
 (refine @unH _ (zAi y74_169 ?_); (try clear hK K); intro K hK hc)
 refine (as_inN m H2 c n c0 n0 wb ab hw2 vab2).runs.mono ?_
 rintro _ H3 ⟨rfl, hw3, hk3⟩
 (refine @unH _ (zUi y74_169 ?_); (try clear hK K); intro K hK hc)
 (refine @unH _ ?_; refine z9 results74 ?_)
 exact ⟨by trivial, hw3, fun x u hx hu => hk3 x u hx (l2 _ _ hu)⟩
end Go.Proofs.YtnfnaehonkbknaaGreatDoor
end
section
namespace Go.Proofs.YtnfnaehonkbknaaGreatDoor
open Go Go.X Go.Proofs.Tryz
def y53_170 := aN @Dvt (aN @Dwc (aN @Dvn (aN @Awm (aN @Bjv (aN @Dyn @Dvu)))))
def y54_170 := aN (fun H => Aqs (H := H) (P := Tryz.prog) (h := zeroValue131)) (aN (fun H => Cyt (H := H) underlying133 rfl) (aN @callF74 (aN (fun H => Aqe (H := H) underlying131 (i := 0) rfl (off := 0) rfl sizeOf35) (fun H => Aqi (H := H) underlying35 rfl))))
def y65_170 := aN @Dvv (aN @Dwc (aN @Dvn (aN @Awm (aN @Dvw (aN @Dvx (aN @Dvr @Dvs))))))
def ErrS (H : Hp) : Prop := ∃ (q : Bool) (cg : Array Value) (eg : TypeId) (fg : Nat × Nat), H 0 = some (q, .cells cg eg fg) /\ cg[0]? = some (.iface 181 (.agg #[.pointer (some ⟨1, 103, none⟩)]))
theorem ErrS.le {H H' : Hp} (h : ErrS H) (hl : H.le H') : ErrS H' := by
 obtain ⟨q, cg, eg, fg, h1, h2⟩ := h
 exact ⟨q, cg, eg, fg, hl _ _ h1, h2⟩
def sdoorC (pl : Int) (d : Dr) : Int := if (d.a < 0 ∨ pl - 1 < d.a) ∨ (d.b < 0 ∨ pl - 1 < d.b) then 3 else if d.a = d.b then 8 else if (d.mn < 1 ∨ 4 < d.mn) ∨ (d.mx < 1 ∨ 4 < d.mx) then 1 else if d.mx < d.mn then 5 else 0
def snoseC (pl : Int) (n : Ns) : Int := if n.pl < 0 ∨ pl - 1 < n.pl then 3 else if n.hr < 0 ∨ 12 < n.hr then 1 else 0
def shampC (pl : Int) : List Int -> List Int -> Int
 | _, [] => 0
 | met, p :: r => if p < 0 ∨ pl - 1 < p then 3 else if p ∈ met then 4 else shampC pl (met ++ [p]) r
def orE (a b : Int) : Int := if a ≠ 0 then a else b
def sfirstC {α : Type} (f : α -> Int) : List α -> Int
 | [] => 0
 | x :: r => orE (f x) (sfirstC f r)
def chkS3 (s : Sm) : Int := if 4 < s.noses.length then 6 else sfirstC (snoseC s.places) s.noses
def chkS2 (s : Sm) : Int := if s.hampers.length = 0 then 7 else if 3 < s.hampers.length then 6 else orE (shampC s.places [] s.hampers) (chkS3 s)
def chkS1 (s : Sm) : Int := if 6 < s.doors.length then 6 else orE (sfirstC (sdoorC s.places) s.doors) (chkS2 s)
def chkS (s : Sm) : Int := if s.places < 1 ∨ 6 < s.places then 1 else chkS1 s
theorem sfirstC_drop {α : Type} {f : α -> Int} {l : List α} {k : Nat} {x : α} (h : l[k]? = some x) : sfirstC f (l.drop k) = orE (f x) (sfirstC f (l.drop (k + 1))) := by
 obtain ⟨hk, rfl⟩ := List.getElem?_eq_some_iff.1 h
 rw [List.drop_eq_getElem_cons hk]
 rfl
theorem shampC_drop {pl : Int} {l : List Int} {k : Nat} {x : Int} (h : l[k]? = some x) : shampC pl (l.take k) (l.drop k) = if x < 0 ∨ pl - 1 < x then 3 else if x ∈ l.take k then 4 else shampC pl (l.take (k + 1)) (l.drop (k + 1)) := by
 obtain ⟨hk, rfl⟩ := List.getElem?_eq_some_iff.1 h
 rw [List.drop_eq_getElem_cons hk, List.take_add_one, h]
 rfl
theorem sdoorC_raw (main : Md) (H : Hp) (pl : Int) (dv hv nv : Value) (d : Dr) (hp1 : 1 <= pl) (hp : pl <= 6) (h1 : one dv = true) (h2 : one hv = true) (h3 : one nv = true) :
  FnX Tryz.prog main 65 #[smV pl dv hv nv, .agg #[.int .i64 d.a, .int .i64 d.b, .int .i64 d.mn, .int .i64 d.mx]] H fun e H' => e = .returned (.int .i64 (sdoorC pl d)) /\ H.le H' := by
 obtain ⟨Z, hZ⟩ : ∃ Z, Z = sdoorC pl d := ⟨_, rfl⟩
 rw [<- hZ]
 unfold sdoorC at hZ
 replace hZ : Aqo _ := hZ
 refine Aql func65 rfl ntmps65 (by simp) ?_
 (refine @unH _ (zA y65_170 ?_); (try clear hK K); intro K hK hc)
 (intro sb hsb nb hnb; replace hnb : (Hp.set _ sb _) nb = none := hnb; generalize hG : Hp.set _ sb _ = H1 at hnb ⊢; have lH1 := Aqc hG hsb; have wsb := Aqb hG; clear hG; generalize hG : Hp.set _ nb _ = H2; have lH2 := Aqc hG hnb; have vnb := Aqb hG; have vsb := lH2 _ _ wsb; have nsbnb := Aqq wsb hnb; clear hG wsb)
 have l2 := Hp.le_trans lH1 lH2
 clear hsb hnb lH1 lH2
 (refine @unH _ (zU y65_170 ?_); (try clear hK K); intro K hK hc)
 refine (Axc main H2 d.a 0 (pl - 1)).runs.mono ?_
 rintro _ _ ⟨rfl, hQ⟩
 rw [hQ]
 clear hQ
 by_cases ha : d.a < 0 ∨ pl - 1 < d.a
 ·obtain rfl : Z = 3 := by have h := (show Z = _ from hZ); rwa [if_pos (.inl ha)] at h
  rw [show (decide (d.a < 0) || decide (pl - 1 < d.a)) = true by simpa using ha]
  clear ha hZ
  (refine @unH _ (zU y65_170 ?_); (try clear hK K); intro K hK hc)
  (refine @unH _ ?_; refine z9 results65 ?_)
  exact ⟨trivial, l2⟩
 rw [show (decide (d.a < 0) || decide (pl - 1 < d.a)) = false by simp; omega]
 (refine @unH _ (zU y65_170 ?_); intro _ _ hc)
 refine (Axc main H2 d.b 0 (pl - 1)).runs.mono ?_
 rintro _ _ ⟨rfl, hQ⟩
 rw [hQ]
 clear hQ
 by_cases hb : d.b < 0 ∨ pl - 1 < d.b
 ·obtain rfl : Z = 3 := by have h := (show Z = _ from hZ); rwa [if_pos (.inr hb)] at h
  rw [show (decide (d.b < 0) || decide (pl - 1 < d.b)) = true by simpa using hb]
  clear ha hb hZ
  (refine @unH _ (zU y65_170 ?_); (try clear hK K); intro K hK hc)
  (refine @unH _ ?_; refine z9 results65 ?_)
  exact ⟨trivial, l2⟩
 rw [show (decide (d.b < 0) || decide (pl - 1 < d.b)) = false by simp; omega]
 have hY := (show Z = _ from hZ)
 clear hZ
 rw [if_neg (fun h => h.elim ha hb)] at hY
 have hZ := hY
 clear hY
 clear ha hb
 by_cases hab : d.a = d.b
 ·obtain rfl : Z = 8 := by rwa [if_pos hab] at hZ
  clear hZ
  (refine @unH _ (zU y65_170 ?_); (try clear hK K); intro K hK hc)
  (refine @unH _ ?_; refine z9 results65 ?_)
  exact ⟨trivial, l2⟩
 rw [if_neg hab] at hZ
 replace hZ : Aqo _ := hZ
 (refine @unH _ (zU y65_170 ?_); (try clear hK K); intro K hK hc)
 refine (Axc main H2 d.mn 1 4).runs.mono ?_
 rintro _ _ ⟨rfl, hQ⟩
 rw [hQ]
 clear hQ hab
 by_cases ha : d.mn < 1 ∨ 4 < d.mn
 ·obtain rfl : Z = 1 := by have h := (show Z = _ from hZ); rwa [if_pos (.inl ha)] at h
  rw [show (decide (d.mn < 1) || decide (4 < d.mn)) = true by simpa using ha]
  clear ha hZ
  (refine @unH _ (zU y65_170 ?_); (try clear hK K); intro K hK hc)
  (refine @unH _ ?_; refine z9 results65 ?_)
  exact ⟨trivial, l2⟩
 rw [show (decide (d.mn < 1) || decide (4 < d.mn)) = false by simp; omega]
 (refine @unH _ (zU y65_170 ?_); (try clear hK K); intro K hK hc)
 refine (Axc main H2 d.mx 1 4).runs.mono ?_
 rintro _ _ ⟨rfl, hQ⟩
 rw [hQ]
 clear hQ
 by_cases hb : d.mx < 1 ∨ 4 < d.mx
 ·obtain rfl : Z = 1 := by have h := (show Z = _ from hZ); rwa [if_pos (.inr hb)] at h
  rw [show (decide (d.mx < 1) || decide (4 < d.mx)) = true by simpa using hb]
  clear ha hb hZ
  (refine @unH _ (zU y65_170 ?_); (try clear hK K); intro K hK hc)
  (refine @unH _ ?_; refine z9 results65 ?_)
  exact ⟨trivial, l2⟩
 rw [show (decide (d.mx < 1) || decide (4 < d.mx)) = false by simp; omega]
 have hY := (show Z = _ from hZ)
 clear hZ
 rw [if_neg (fun h => h.elim ha hb)] at hY
 have hZ := hY
 clear hY
 clear ha hb
 by_cases hab : d.mx < d.mn
 ·obtain rfl : Z = 5 := by rwa [if_pos hab] at hZ
  clear hZ
  (refine @unH _ (zU y65_170 ?_); (try clear hK K); intro K hK hc)
  (refine @unH _ ?_; refine z9 results65 ?_)
  exact ⟨trivial, l2⟩
 obtain rfl : Z = 0 := by rwa [if_neg hab] at hZ
 clear hZ
 (refine @unH _ (zU y65_170 ?_); (try clear hK K); intro K hK hc)
 (refine @unH _ ?_; refine z9 results65 ?_)
 exact ⟨trivial, l2⟩
theorem snoseC_raw (main : Md) (H : Hp) (pl : Int) (dv hv nv : Value) (n : Ns) (at_ : Int) (hp1 : 1 <= pl) (hp : pl <= 6) (h1 : one dv = true) (h2 : one hv = true) (h3 : one nv = true) :
  FnX Tryz.prog main 53 #[smV pl dv hv nv, .agg #[.int .i64 n.pl, .int .i64 n.hr, .bool n.sm], .int .i64 at_] H fun e H' => e = .returned (if snoseC pl n = 0 then .nilIface else .iface 131 (.agg #[.int .i64 (snoseC pl n), .int .i64 at_])) /\ H.le H' := by
 obtain ⟨Z, hZ⟩ : ∃ Z, Z = snoseC pl n := ⟨_, rfl⟩
 rw [<- hZ]
 unfold snoseC at hZ
 replace hZ : Aqo _ := hZ
 refine Aql func53 rfl ntmps53 (by simp) ?_
 (refine @unH _ (zA y53_170 ?_); (try clear hK K); intro K hK hc)
 (intro sb hsb nb hnb; replace hnb : (Hp.set _ sb _) nb = none := hnb; generalize hG : Hp.set _ sb _ = H1 at hnb ⊢; have lH1 := Aqc hG hsb; have wsb := Aqb hG; clear hG; generalize hG : Hp.set _ nb _ = H2; have lH2 := Aqc hG hnb; have vnb := Aqb hG; have vsb := lH2 _ _ wsb; have nsbnb := Aqq wsb hnb; clear hG wsb)
 have l2 := Hp.le_trans lH1 lH2
 clear hsb hnb lH1 lH2
 (refine @unH _ (zU y53_170 ?_); (try clear hK K); intro K hK hc)
 refine (Axc main H2 n.pl 0 (pl - 1)).runs.mono ?_
 rintro _ _ ⟨rfl, hQ⟩
 rw [hQ]
 clear hQ
 by_cases ha : n.pl < 0 ∨ pl - 1 < n.pl
 ·obtain rfl : Z = 3 := by have h := (show Z = _ from hZ); rwa [if_pos ha] at h
  rw [show (decide (n.pl < 0) || decide (pl - 1 < n.pl)) = true by simpa using ha]
  clear ha hZ
  (refine @unH _ (zU y53_170 ?_); (try clear hK K); intro K hK hc)
  (refine @unH _ ?_; refine z9 results53 ?_)
  exact ⟨by first | trivial | rw [if_neg (by decide)], l2⟩
 rw [show (decide (n.pl < 0) || decide (pl - 1 < n.pl)) = false by simp; omega]
 (refine @unH _ (zU y53_170 ?_); (try clear hK K); intro K hK hc)
 refine (Axc main H2 n.hr 0 12).runs.mono ?_
 rintro _ _ ⟨rfl, hQ⟩
 rw [hQ]
 clear hQ
 have hY := (show Z = _ from hZ)
 clear hZ
 rw [if_neg ha] at hY
 have hZ := hY
 clear hY
 clear ha
 by_cases hb : n.hr < 0 ∨ 12 < n.hr
 ·obtain rfl : Z = 1 := by rwa [if_pos hb] at hZ
  rw [show (decide (n.hr < 0) || decide (12 < n.hr)) = true by simpa using hb]
  clear hb hZ
  (refine @unH _ (zU y53_170 ?_); (try clear hK K); intro K hK hc)
  (refine @unH _ ?_; refine z9 results53 ?_)
  exact ⟨by first | trivial | rw [if_neg (by decide)], l2⟩
 obtain rfl : Z = 0 := by rwa [if_neg hb] at hZ
 rw [show (decide (n.hr < 0) || decide (12 < n.hr)) = false by simp; omega]
 clear hb hZ
 (refine @unH _ (zU y53_170 ?_); (try clear hK K); intro K hK hc)
 (refine @unH _ ?_; refine z9 results53 ?_)
 exact ⟨by first | trivial | rw [if_neg (by decide)], l2⟩
theorem scode_bad (main : Md) (H : Hp) (c n : Int) (he : ErrS H) :
  FnX Tryz.prog main 54 #[.iface 131 (.agg #[.int .i64 c, .int .i64 n])] H fun e H' => e = .returned (.int .i64 c) /\ H.le H' := by
 refine Aql func54 rfl ntmps54 (by simp) ?_
 (refine @unH _ (zA y54_170 ?_); (try clear hK K); intro K hK hc)
 intro wb hwb
 generalize hG : Hp.set H wb _ = H1
 have l1 := Aqc hG hwb
 have vwb := Aqb hG
 clear hG
 obtain ⟨q, cg, eg, fg, hg, hg0⟩ := he.le l1
 (refine @unH _ (zU y54_170 ?_); (try clear hK K); intro K hK hc)
 refine (as_hitN main H1 c n 0 0 wb q cg eg fg hg hg0 vwb).runs.mono ?_
 rintro _ H2 ⟨rfl, hw2, hk2⟩
 have l2 : H.le H2 := fun x u hx => hk2 x u (fun e => by rw [e, hwb] at hx; cases hx) (l1 _ _ hx)
 clear vwb hg hg0
 (refine @unH _ (zU y54_170 ?_); (try clear hK K); intro K hK hc)
 (refine @unH _ ?_; refine z9 results54 ?_)
 exact ⟨trivial, l2⟩
def y31_171 := aN @Dvn (aN @Dwc (aN @Awm (aN @Dvo (aN @Dwa (aN @Dye (aN @Dw9 (aN @Dwm (aN @Dw5 (aN @Dwu (aN @Dwj (aN @Dxx (aN @Dvp (aN @Dv9 (aN @Dyd (aN @Dw8 (aN @Bw6 (aN @Bw5 (aN @Dvq (aN @Dwb (aN @Dyf (aN @Dya (aN @Dwl (aN @Dw4 (aN @Dwt (aN @Dxr (aN @Cke (aN @Dza (aN (fun H => Bwu (H := H) underlying103) (aN (fun H => Bjs (H := H) underlying103) (aN (fun H => Bwv (H := H) underlying103) (aN (fun H => Bju (H := H) underlying103) @Dxs)))))))))))))))))))))))))))))))
theorem smCheck_raw (main : Md) (H : Hp) (s : Sm) (dv hv nv : Value) (hs : SmIn H dv hv nv s) (he : ErrS H) (hl1 : s.doors.length <= 1000) (hl2 : s.hampers.length <= 1000) (hl3 : s.noses.length <= 1000) :
  FnX Tryz.prog main 31 #[smV s.places dv hv nv] H fun e H' => e = .returned (.int .i64 (chkS s)) /\ H.le H' := by
 obtain ⟨Z, hZ⟩ : ∃ Z, Z = chkS s := ⟨_, rfl⟩
 rw [<- hZ]
 obtain ⟨da, dc, ha, kc, na, nc, rfl, rfl, rfl, -, -, -⟩ := hs.forms
 have hsD : SlD H _ s.doors := hs.dd
 have hsH : SlI H _ s.hampers := hs.hh
 have hsN : SlN H _ s.noses := hs.nn
 unfold chkS at hZ
 replace hZ : Aqo _ := hZ
 clear hs
 refine Aql func31 rfl ntmps31 (by simp) ?_
 (refine @unH _ (zA y31_171 ?_); (try clear hK K); intro K hK hc)
 (intro sb hsb; generalize hG : Hp.set _ sb _ = H1; have lH1 := Aqc hG hsb; have vsb := Aqb hG; clear hG)
 replace hsD := hsD.le lH1
 replace hsH := hsH.le lH1
 replace hsN := hsN.le lH1
 replace he := he.le lH1
 (refine @unH _ (zU y31_171 ?_); (try clear hK K); intro K hK hc)
 refine (Axc main H1 s.places 1 6).runs.mono ?_
 rintro _ _ ⟨rfl, hQ⟩
 rw [hQ]
 clear hQ
 by_cases hpl : s.places < 1 ∨ 6 < s.places
 ·obtain rfl : Z = 1 := by have h := (show Z = _ from hZ); rwa [if_pos hpl] at h
  rw [show (decide (s.places < 1) || decide (6 < s.places)) = true by simpa using hpl]
  clear hpl hZ
  (refine @unH _ (zU y31_171 ?_); (try clear hK K); intro K hK hc)
  (refine @unH _ ?_; refine z9 results31 ?_)
  exact ⟨trivial, lH1⟩
 rw [show (decide (s.places < 1) || decide (6 < s.places)) = false by simp; omega]
 have hY := (show Z = _ from hZ)
 clear hZ
 rw [if_neg hpl] at hY
 unfold chkS1 at hY
 have hp1 : 1 <= s.places := by omega
 have hp6 : s.places <= 6 := by omega
 clear hpl
 by_cases hd6 : 6 < s.doors.length
 ·obtain rfl : Z = 6 := by rwa [if_pos hd6] at hY
  have hd6' : (6 : Int) < s.doors.length := by omega
  clear hd6 hY
  (refine @unH _ (zU y31_171 ?_); (try clear hK K); intro K hK hc)
  (refine @unH _ ?_; refine z9 results31 ?_)
  exact ⟨trivial, lH1⟩
 rw [if_neg hd6] at hY
 have hd6' : ¬ (6 : Int) < s.doors.length := by omega
 replace hY : Aqo _ := hY
 clear hd6
 (refine @unH _ (zU y31_171 ?_); (try clear hK K); intro K hK hc)
 refine Axh (fun w a' H' => ∃ e, ∃ k : Nat, w = s.doors.length - k /\ k <= s.doors.length /\ a' = act 83 e [] /\ e 1 = .pointer (some ⟨sb, 0, none⟩) /\ e 21 = .slice da s.doors.length dc /\ e 22 = .int .i64 s.doors.length /\ e 23 = .int .i64 (k : Nat) /\ H1.le H' /\ Aqo (Z = orE (sfirstC (sdoorC s.places) (s.doors.drop k)) (chkS2 s))) (n := s.doors.length) ?_ ?_
 ·exact ⟨_, 0, by omega, by omega, rfl, rfl, rfl, rfl, rfl, Hp.le_refl _, hY⟩
 rename_i eold
 clear eold hY hd6'
 rintro w a' H2 ⟨e, k, rfl, hk', rfl, e1, e21, e22, e23, l12, hY⟩
 have vs2 := l12 _ _ vsb
 by_cases hlt : k < s.doors.length
 ·obtain ⟨b, o, p, c, fr, rfl, hb, hcs, hce⟩ := hsD.get (List.getElem?_eq_getElem hlt)
  have hdk := sfirstC_drop (f := sdoorC s.places) (List.getElem?_eq_getElem hlt)
  generalize s.doors[k] = d at *
  have hb2 := l12 _ _ hb
  replace hdk : Aqo _ := hdk
  clear hb hsD
  (refine @unH _ (zA y31_171 ?_); (try clear hK K); intro K hK hc)
  intro ab hab
  have nsb := Aqq vs2 hab
  (refine @unH _ (zU y31_171 ?_); (try clear hK K); intro K hK hc)
  generalize hG : Hp.set _ ab _ = H3
  have vs3 := Aqf hG vs2 nsb
  have l13 := Hp.le_trans l12 (Aqc hG hab)
  clear vs2 hb2 hab hG
  refine (sdoorC_raw main H3 s.places (.slice _ _ _) (.slice _ _ _) (.slice _ _ _) d hp1 hp6 rfl rfl rfl).runs.mono ?_
  rintro _ H4 ⟨rfl, lH4⟩
  have l14 := Hp.le_trans l13 lH4
  clear lH4 vs3 hce hcs
  have hq := (show Z = _ from hY)
  rw [show sfirstC _ _ = _ from hdk] at hq
  clear hY hdk
  generalize sdoorC s.places d = y at *
  by_cases hy : y = 0
  ·subst hy
   replace hq : Aqo _ := hq
   (refine @unH _ (zU y31_171 ?_); (try clear hK K); intro K hK hc)
   exact ⟨_, by omega, _, k + 1, rfl, by omega, rfl, e1, e21, e22, rfl, l14, by
    have h := (show Z = _ from hq)
    unfold orE at h
    simp only [ne_eq, not_true_eq_false, if_false] at h
    exact h⟩
  ·obtain rfl : Z = y := by
    unfold orE at hq
    simp only [ne_eq, hy, not_false_eq_true, if_true] at hq
    exact hq
   clear hq
   (refine @unH _ (zU y31_171 ?_); (try clear hK K); intro K hK hc)
   (refine @unH _ ?_; refine z9 results31 ?_)
   exact ⟨trivial, Hp.le_trans lH1 l14⟩
 obtain rfl : k = s.doors.length := by omega
 have hZ := (show Z = _ from hY)
 rw [List.drop_length] at hZ
 unfold orE sfirstC chkS2 at hZ
 simp only [ne_eq, not_true_eq_false, if_false] at hZ
 clear hY
 by_cases hn0 : s.hampers.length = 0
 ·obtain rfl : Z = 7 := by rwa [if_pos hn0] at hZ
  have hn0' : (s.hampers.length : Int) = 0 := by omega
  clear hn0 hZ
  (refine @unH _ (zA y31_171 ?_); (try clear hK K); intro K hK hc)
  (refine @unH _ ?_; refine z9 results31 ?_)
  exact ⟨trivial, Hp.le_trans lH1 l12⟩
 rw [if_neg hn0] at hZ
 have hn0' : ¬ (s.hampers.length : Int) = 0 := by omega
 clear hn0
 by_cases hn3 : 3 < s.hampers.length
 ·obtain rfl : Z = 6 := by rwa [if_pos hn3] at hZ
  have hn3' : (3 : Int) < s.hampers.length := by omega
  clear hn3 hZ
  (refine @unH _ (zA y31_171 ?_); (try clear hK K); intro K hK hc)
  (refine @unH _ ?_; refine z9 results31 ?_)
  exact ⟨trivial, Hp.le_trans lH1 l12⟩
 rw [if_neg hn3] at hZ
 have hn3' : ¬ (3 : Int) < s.hampers.length := by omega
 clear hn3
 replace hZ : Aqo _ := hZ
 (refine @unH _ (zA y31_171 ?_); (try clear hK K); intro K hK hc)
 clear e21 e22 e23 hsD
 refine Axh (fun w a' H' => ∃ e, ∃ k : Nat, w = s.hampers.length - k /\ k <= s.hampers.length /\ a' = act 83 e [] /\ e 1 = .pointer (some ⟨sb, 0, none⟩) /\ e 7 = .int .u8 (oOf (s.hampers.take k) : Nat) /\ e 44 = .slice ha s.hampers.length kc /\ e 45 = .int .i64 s.hampers.length /\ e 46 = .int .i64 (k : Nat) /\ H1.le H' /\ Aqo (∀ x ∈ s.hampers.take k, 0 <= x /\ x < s.places) /\ Aqo (Z = orE (shampC s.places (s.hampers.take k) (s.hampers.drop k)) (chkS3 s))) (n := s.hampers.length) ?_ ?_
 ·exact ⟨_, 0, by omega, by omega, rfl, e1, rfl, rfl, rfl, rfl, l12, fun x hx => by simp at hx, hZ⟩
 clear vs2 l12 e1 H2 hZ hn0' hn3'
 rename_i eold
 clear eold
 rintro w a' H2 ⟨e, k, rfl, hk', rfl, e1, e7, e44, e45, e46, l12, hmk, hY⟩
 have vs2 := l12 _ _ vsb
 by_cases hlt : k < s.hampers.length
 ·obtain ⟨b, o, p, c, fr, rfl, hb, hce⟩ := hsH.get (List.getElem?_eq_getElem hlt)
  have hce' : c[o + (k : Int).toNat * 1]? = some (.int .i64 s.hampers[k]) := by simpa using hce
  have hb2 := l12 _ _ hb
  have hmk' := (show ∀ x ∈ s.hampers.take k, 0 <= x /\ x < s.places from hmk)
  have hlt64 : oOf (s.hampers.take k) < 64 := Cva _ 0 (by decide) (fun x hx => by have := hmk' x hx; omega)
  have hbit : 0 <= s.hampers[k] -> (oOf (s.hampers.take k)).testBit (s.hampers[k]).toNat = decide (s.hampers[k] ∈ s.hampers.take k) := fun h0 => Byu _ (fun x hx => (hmk' x hx).1) _ h0
  have hsn : oOf (s.hampers.take (k + 1)) = Akq (oOf (s.hampers.take k)) (s.hampers[k]).toNat := by rw [List.take_add_one, List.getElem?_eq_getElem hlt]; exact Cyw _ _
  have hdr := shampC_drop (pl := s.places) (List.getElem?_eq_getElem hlt)
  have hnx : 0 <= s.hampers[k] /\ s.hampers[k] < s.places -> ∀ x ∈ s.hampers.take (k + 1), 0 <= x /\ x < s.places := fun hh x hx => by
   rw [List.take_add_one, List.getElem?_eq_getElem hlt] at hx
   rcases List.mem_append.1 hx with hx | hx
   ·exact hmk' x hx
   ·simp at hx
    rw [hx]
    exact hh
  obtain ⟨m1, hm1⟩ : ∃ m1, m1 = oOf (s.hampers.take (k + 1)) := ⟨_, rfl⟩
  rw [<- hm1] at hsn
  replace hm1 : Aqo _ := hm1
  have hq := (show Z = _ from hY)
  rw [hdr] at hq
  clear hdr hY hmk hmk'
  generalize hM : oOf (s.hampers.take k) = m at *
  generalize hX : s.hampers[k] = x at *
  clear hb
  replace hM : Aqo _ := hM
  replace hX : Aqo _ := hX
  replace hsn : Aqo _ := hsn
  replace hbit : Aqo _ := hbit
  replace hnx : Aqo _ := hnx
  replace hq : Aqo _ := hq
  (refine @unH _ (zA y31_171 ?_); (try clear hK K); intro K hK hc)
  refine (Axc main H2 x 0 (s.places - 1)).runs.mono ?_
  rintro _ _ ⟨rfl, hQ⟩
  rw [hQ]
  clear hQ
  by_cases hxo : x < 0 ∨ s.places - 1 < x
  ·obtain rfl : Z = 3 := by
    have h := (show Z = _ from hq)
    rw [if_pos hxo] at h
    exact h
   rw [show (decide (x < 0) || decide (s.places - 1 < x)) = true by simpa using hxo]
   clear hxo hq hnx hbit hsn
   (refine @unH _ (zU y31_171 ?_); (try clear hK K); intro K hK hc)
   (refine @unH _ ?_; refine z9 results31 ?_)
   exact ⟨trivial, Hp.le_trans lH1 l12⟩
  rw [show (decide (x < 0) || decide (s.places - 1 < x)) = false by simp; omega]
  have h2 := (show Z = _ from hq)
  rw [if_neg hxo] at h2
  clear hq
  have hb2' := (show 0 <= x -> _ from hbit) (by omega)
  clear hbit
  replace h2 : Aqo _ := h2
  replace hb2' : Aqo _ := hb2'
  (refine @unH _ (zU y31_171 ?_); (try clear hK K); intro K hK hc)
  refine (Bx1 main H2 m x hlt64 (by omega) (by omega)).runs.mono ?_
  rintro _ _ ⟨rfl, hQ⟩
  rw [hQ, show m.testBit x.toNat = _ from hb2']
  clear hQ hb2'
  by_cases hmm : x ∈ s.hampers.take k
  ·obtain rfl : Z = 4 := by
    have h := (show Z = _ from h2)
    rw [if_pos hmm] at h
    exact h
   rw [decide_eq_true hmm]
   clear hmm h2 hnx hsn
   (refine @unH _ (zU y31_171 ?_); (try clear hK K); intro K hK hc)
   (refine @unH _ ?_; refine z9 results31 ?_)
   exact ⟨trivial, Hp.le_trans lH1 l12⟩
  rw [decide_eq_false hmm]
  have h3 := (show Z = _ from h2)
  rw [if_neg hmm] at h3
  clear h2 hmm
  replace h3 : Aqo _ := h3
  (refine @unH _ (zU y31_171 ?_); (try clear hK K); intro K hK hc)
  refine (Ay0 main H2 m x hlt64 (by omega) (by omega)).runs.mono ?_
  rintro _ _ ⟨rfl, hQ⟩
  rw [hQ, <- show m1 = Akq m x.toNat from hsn]
  clear hQ
  (refine @unH _ (zU y31_171 ?_); (try clear hK K); intro K hK hc)
  exact ⟨_, by omega, _, k + 1, rfl, by omega, rfl, e1, by rw [<- show m1 = _ from hm1]; rfl, e44, e45, rfl, l12, (show _ -> _ from hnx) ⟨by omega, by omega⟩, h3⟩
 obtain rfl : k = s.hampers.length := by omega
 have hZ := (show Z = _ from hY)
 rw [List.drop_length] at hZ
 unfold orE shampC chkS3 at hZ
 simp only [ne_eq, not_true_eq_false, if_false] at hZ
 clear hY hmk
 by_cases hn4 : 4 < s.noses.length
 ·obtain rfl : Z = 6 := by rwa [if_pos hn4] at hZ
  have hn4' : (4 : Int) < s.noses.length := by omega
  clear hn4 hZ
  (refine @unH _ (zA y31_171 ?_); (try clear hK K); intro K hK hc)
  (refine @unH _ ?_; refine z9 results31 ?_)
  exact ⟨trivial, Hp.le_trans lH1 l12⟩
 rw [if_neg hn4] at hZ
 have hn4' : ¬ (4 : Int) < s.noses.length := by omega
 clear hn4
 replace hZ : Aqo _ := hZ
 (refine @unH _ (zA y31_171 ?_); (try clear hK K); intro K hK hc)
 clear e7 e44 e45 e46 hsH
 refine Axh (fun w a' H' => ∃ e, ∃ k : Nat, w = s.noses.length - k /\ k <= s.noses.length /\ a' = act 83 e [] /\ e 1 = .pointer (some ⟨sb, 0, none⟩) /\ e 67 = .slice na s.noses.length nc /\ e 68 = .int .i64 s.noses.length /\ e 69 = .int .i64 (k : Nat) /\ H1.le H' /\ Aqo (Z = sfirstC (snoseC s.places) (s.noses.drop k))) (n := s.noses.length) ?_ ?_
 ·exact ⟨_, 0, by omega, by omega, rfl, e1, rfl, rfl, rfl, l12, hZ⟩
 clear vs2 l12 e1 H2 hZ hn4'
 rename_i eold
 clear eold
 rintro w a' H2 ⟨e, k, rfl, hk', rfl, e1, e67, e68, e69, l12, hY⟩
 have vs2 := l12 _ _ vsb
 by_cases hlt : k < s.noses.length
 ·obtain ⟨b, o, p, c, fr, rfl, hb, hcs, hce⟩ := hsN.get (List.getElem?_eq_getElem hlt)
  have hdk := sfirstC_drop (f := snoseC s.places) (List.getElem?_eq_getElem hlt)
  generalize s.noses[k] = d at *
  have hb2 := l12 _ _ hb
  have hq := (show Z = _ from hY)
  rw [hdk] at hq
  clear hb hsN hdk hY
  replace hq : Aqo _ := hq
  (refine @unH _ (zA y31_171 ?_); (try clear hK K); intro K hK hc)
  intro ab hab
  have nsb := Aqq vs2 hab
  (refine @unH _ (zU y31_171 ?_); (try clear hK K); intro K hK hc)
  generalize hG : Hp.set _ ab _ = H3
  have vs3 := Aqf hG vs2 nsb
  have l13 := Hp.le_trans l12 (Aqc hG hab)
  clear vs2 hb2 hab hG
  refine (snoseC_raw main H3 s.places (.slice _ _ _) (.slice _ _ _) (.slice _ _ _) d _ hp1 hp6 rfl rfl rfl).runs.mono ?_
  rintro _ H4 ⟨rfl, lH4⟩
  have l14 := Hp.le_trans l13 lH4
  have he4 := he.le l14
  clear lH4 vs3 hce hcs
  generalize snoseC s.places d = y at *
  by_cases hy : y = 0
  ·subst hy
   rw [if_pos rfl]
   (refine @unH _ (zU y31_171 ?_); (try clear hK K); intro K hK hc)
   exact ⟨_, by omega, _, k + 1, rfl, by omega, rfl, e1, e67, e68, rfl, l14, by
    have h := (show Z = _ from hq)
    unfold orE at h
    simp only [ne_eq, not_true_eq_false, if_false] at h
    exact h⟩
  ·obtain rfl : Z = y := by
    have h := (show Z = _ from hq)
    unfold orE at h
    simp only [ne_eq, hy, not_false_eq_true, if_true] at h
    exact h
   rw [if_neg hy]
   clear hq
   (refine @unH _ (zU y31_171 ?_); (try clear hK K); intro K hK hc)
   refine (scode_bad main H4 _ _ he4).runs.mono ?_
   rintro _ H5 ⟨rfl, l45⟩
   (refine @unH _ (zU y31_171 ?_); (try clear hK K); intro K hK hc)
   (refine @unH _ ?_; refine z9 results31 ?_)
   exact ⟨trivial, Hp.le_trans lH1 (Hp.le_trans l14 l45)⟩
 obtain rfl : k = s.noses.length := by omega
 obtain rfl : Z = 0 := by
  have hZ := (show Z = _ from hY)
  rw [List.drop_length] at hZ
  exact hZ
 (refine @unH _ (zA y31_171 ?_); (try clear hK K); intro K hK hc)
 (refine @unH _ ?_; refine z9 results31 ?_)
 exact ⟨trivial, Hp.le_trans lH1 l12⟩
end Go.Proofs.YtnfnaehonkbknaaGreatDoor
end
section
namespace Go.Proofs.YtnfnaehonkbknaaGreatDoor
open Go Go.X
theorem sbBandS {H : Hp} (a b : Int) (K : Value -> Hp -> Prop) (E : Value -> Hp -> Prop) :
  wpS Tryz.prog (binOp .neq 34 (.agg #[.int .i64 a, .int .i64 b]) (.agg #[.int .i64 a, .int .i64 b])) H K E = K (.bool false) H := by
 rw [sbin_neq2 Dqb, beq_self_eq_true, beq_self_eq_true]
 rfl
end Go.Proofs.YtnfnaehonkbknaaGreatDoor
end
section
namespace Go.Proofs.YtnfnaehonkbknaaGreatDoor
open Go Go.X Go.Proofs.Tryz
def y29_182 := aN @Dw1 (aN @Dxk (aN @Bzo (aN @Cjz (aN @Bqr @Dwr))))
def flatC {α : Type} (l : List α) (f : α -> List Value) : Array Value := (l.flatMap f).toArray
theorem flatC_D {H : Hp} {b N : Nat} {p : Bool} {fr : Nat × Nat} {ds : List Dr} (h : H b = some (p, .cells (flatC ds Ckc) 66 fr)) (hN : ds.length <= N) : SlD H (.slice (some ⟨b, 0, none⟩) ds.length N) ds := by
 have := SlG.of (sz := 4) (by decide) (rows := ds.map Ckc) (N := N) h (fun r hr => by
  obtain ⟨d, _, rfl⟩ := List.mem_map.1 hr
  rfl) (fun j u h => by
   unfold flatC
   rw [List.getElem?_toArray]
   rw [List.flatMap_map] at h
   exact h) (by simpa using hN)
 rw [List.length_map] at this
 exact this
theorem flatC_N {H : Hp} {b N : Nat} {p : Bool} {fr : Nat × Nat} {ns : List Ns} (h : H b = some (p, .cells (flatC ns Ck9) 46 fr)) (hN : ns.length <= N) : SlN H (.slice (some ⟨b, 0, none⟩) ns.length N) ns := by
 have := SlG.of (sz := 3) (by decide) (rows := ns.map Ck9) (N := N) h (fun r hr => by
  obtain ⟨d, _, rfl⟩ := List.mem_map.1 hr
  rfl) (fun j u h => by
   unfold flatC
   rw [List.getElem?_toArray]
   rw [List.flatMap_map] at h
   exact h) (by simpa using hN)
 rw [List.length_map] at this
 exact this
theorem foulN_spec (m : Md) (H : Hp) :
  FnX Tryz.prog m 29 #[] H fun e H' => ∃ db ib nb, e = .returned (smV 4 (.slice (some ⟨db, 0, none⟩) 3 3) (.slice (some ⟨ib, 0, none⟩) 2 2) (.slice (some ⟨nb, 0, none⟩) 2 2)) /\
   H' db = some (true, .cells (flatC Aje.doors Ckc) 66 (0, 0)) /\ H' ib = some (true, .cells #[.int .i64 0, .int .i64 2] 3 (0, 0)) /\ H' nb = some (true, .cells (flatC Aje.noses Ck9) 46 (0, 0)) /\ H db = none /\ H ib = none /\ H nb = none /\ H.le H' := by
 refine Aql func29 rfl ntmps29 (by simp) ?_
 (refine @unH _ (zA y29_182 ?_); (try clear hK K); intro K hK hc)
 (intro rb hrb; generalize hG : Hp.set _ rb _ = H1; have lH1 := Aqc hG hrb; have vrb := Aqb hG; clear hG)
 (refine @unH _ (zU y29_182 ?_); (try clear hK K); intro K hK hc)
 refine (Ay2 m H1 0 1 2 3).runs.mono ?_
 rintro _ H2 ⟨rfl, l12⟩
 have l02 := Hp.le_trans lH1 l12
 have vr2 := l12 _ _ vrb
 clear l12
 (refine @unH _ (zU y29_182 ?_); intro _ _ hc)
 refine (Ay2 m H2 1 2 1 1).runs.mono ?_
 rintro _ H3 ⟨rfl, l23⟩
 have l03 := Hp.le_trans l02 l23
 have vr3 := l23 _ _ vr2
 clear l23 l02 vr2 vrb
 (refine @unH _ (zU y29_182 ?_); intro _ _ hc)
 refine (Ay2 m H3 0 3 1 2).runs.mono ?_
 rintro _ H4 ⟨rfl, l34⟩
 have l04 := Hp.le_trans l03 l34
 have vr4 := l34 _ _ vr3
 clear l34 l03 vr3
 (refine @unH _ (zU (aN y29_182 @Dxc) ?_); intro _ _ hc)
 (intro db hdb ib hib; replace hib : (Hp.set _ db _) ib = none := hib; generalize hG : Hp.set _ db _ = H5 at hib ⊢; have lH5 := Aqc hG hdb; have wdb := Aqb hG; clear hG; generalize hG : Hp.set _ ib _ = H6; have lH6 := Aqc hG hib; have vib := Aqb hG; have vdb := lH6 _ _ wdb; have ndbib := Aqq wdb hib; clear hG wdb)
 have l06 := Hp.le_trans l04 (Hp.le_trans lH5 lH6)
 have fdb := Hp.le_none l04 hdb
 have fib := Hp.le_none (Hp.le_trans l04 lH5) hib
 have vr6 := lH6 _ _ (lH5 _ _ vr4)
 clear l04 vr4 hdb hib lH5 lH6
 (refine @unH _ (zU y29_182 ?_); intro _ _ hc)
 refine (Awd m H6 1 4 true).runs.mono ?_
 rintro _ H7 ⟨rfl, l67⟩
 have l07 := Hp.le_trans l06 l67
 have vr7 := l67 _ _ vr6
 have vd7 := l67 _ _ vdb
 have vi7 := l67 _ _ vib
 clear l06 l67 vr6 vdb vib
 (refine @unH _ (zU y29_182 ?_); intro _ _ hc)
 refine (Awd m H7 3 3 false).runs.mono ?_
 rintro _ H8 ⟨rfl, l78⟩
 have l08 := Hp.le_trans l07 l78
 have vr8 := l78 _ _ vr7
 have vd8 := l78 _ _ vd7
 have vi8 := l78 _ _ vi7
 clear l07 l78 vr7 vd7 vi7
 (refine @unH _ (zU (aN y29_182 @Cjw) ?_); intro _ _ hc)
 intro nb hnb
 have fnb := Hp.le_none l08 hnb
 have nrn := Aqq vr8 hnb
 (refine @unH _ (zU y29_182 ?_); (try clear hK K); intro K hK hc)
 generalize hG : Hp.set H8 nb _ = H9
 have l89 := Aqc hG hnb
 have vn9 := Aqb hG
 have vr9 := l89 _ _ vr8
 have vd9 := l89 _ _ vd8
 have vi9 := l89 _ _ vi8
 have l09 := Hp.le_trans l08 l89
 clear hG l89 hnb l08 vr8 vd8 vi8
 have nrd : db ≠ rb := fun e => by rw [e, vr9] at vd9; simp at vd9
 have nri : ib ≠ rb := fun e => by rw [e, vr9] at vi9; simp at vi9
 (refine @unH _ (zU y29_182 ?_); (try clear hK K); intro K hK hc)
 (refine Axt ?_; (try simp only [nq, ↓reduceIte, Nat.reduceEqDiff]); rw [Aq7, Ax2 results29 (by decide) (b := rb) (o := 0) rfl underlying26 rfl sizeOf26]; simp -implicitDefEqProofs (disch := first | omega | (simp only [qd] <;> omega)) only [xq, ↓xp, qc, Nat.reduceAdd, List.range, List.range.loop, fine, Nat.reduceEqDiff, ↓reduceIte, yielded, reduceCtorEq, Nat.reduceLT, Nat.reduceMul, Nat.reduceSub, one, Nat.reduceLeDiff, Aqj, y29_182, Axj, List.extract_toArray])
 refine ⟨db, ib, nb, rfl, ?_, ?_, ?_, fdb, fib, fnb, Azx l09 hrb⟩
 ·rw [Aqv nrd]; exact vd9
 ·rw [Aqv nri]; exact vi9
 ·rw [Aqv (Ne.symm nrn)]; exact vn9
end Go.Proofs.YtnfnaehonkbknaaGreatDoor
end
