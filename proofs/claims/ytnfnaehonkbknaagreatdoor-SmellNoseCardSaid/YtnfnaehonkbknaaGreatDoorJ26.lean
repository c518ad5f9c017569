/- Texts SmKa SmNw LSNose PSmellNose SSmellNose. -/
import Derived.Test.YtnfnaehonkbknaaGreatDoorJ25
import Derived.Test.YtnfnaehonkbknaaGreatDoorAFactA
import Derived.Test.YtnfnaehonkbknaaGreatDoorAFactSB
import Derived.Test.YtnfnaehonkbknaaGreatDoorAFactSC
set_option linter.defProp false
set_option linter.unusedSimpArgs false
set_option linter.unusedVariables false
set_option maxRecDepth 100000
set_option maxHeartbeats 2000000
section
namespace Go.Proofs.YtnfnaehonkbknaaGreatDoor
open Go Go.X
def y19_157 := And.intro (fun H => Aqv (H := H) (P := Tryz.prog) (h := Tryz.zeroValue26)) (And.intro (fun H => Aqp (H := H) Tryz.underlying26 rfl Tryz.sizeOf26) (And.intro @Bk7 (And.intro @bld_26__0 (And.intro (fun H => Aqr (H := H) Tryz.sizeOf26) (And.intro (fun H => Aqd (H := H) Tryz.underlying26 (i := 3) rfl (off := 3) rfl Tryz.sizeOf24) (And.intro (fun H => Aqg (H := H) Tryz.underlying24 rfl) (And.intro (fun H => Aq7 (H := H) Tryz.underlying24) (And.intro (fun H => Aqp (H := H) Tryz.underlying46 rfl Tryz.sizeOf46) (And.intro @Djj (And.intro @Cvp (And.intro @Dj2 (And.intro (fun H => By5 (H := H) Tryz.underlying103) (And.intro (fun H => Bk0 (H := H) Tryz.underlying103) (And.intro (fun H => By6 (H := H) Tryz.underlying103) (And.intro (fun H => Bk3 (H := H) Tryz.underlying103) (And.intro @Djk (And.intro (fun H => Aqd (H := H) Tryz.underlying26 (i := 0) rfl (off := 0) rfl Tryz.sizeOf3) (And.intro (fun H => Aqg (H := H) Tryz.underlying3 rfl) (And.intro (fun H => Aqd (H := H) Tryz.underlying26 (i := 1) rfl (off := 1) rfl Tryz.sizeOf23) (And.intro (fun H => Aqg (H := H) Tryz.underlying23 rfl) (And.intro @callF55 (And.intro (fun H => Aqd (H := H) Tryz.underlying26 (i := 2) rfl (off := 2) rfl Tryz.sizeOf22) (And.intro (fun H => Aqg (H := H) Tryz.underlying22 rfl) (And.intro @Djl (And.intro (fun H => Bvv (H := H) Tryz.underlying24 Tryz.sizeOf46) (And.intro (fun H => Bvw (H := H) Tryz.underlying24 Tryz.sizeOf46) (And.intro (fun H => Bxe (H := H) Tryz.underlying24 Tryz.sizeOf46) (And.intro (fun H => Bxq (H := H) Tryz.underlying24 Tryz.sizeOf46) (And.intro (fun H => Awe (H := H) Tryz.underlying24 Tryz.sizeOf46 Tryz.zeroValue46 rfl (by decide) (by decide)) (And.intro @Bxx @Djm))))))))))))))))))))))))))))))
def y55_157 := And.intro @Cvq (fun H => Bk1 (H := H) Tryz.underlying23)
theorem z0_157 {p q : Prop} (g : q) (h : Hid q -> p := by
 intro g
 repeat' (first
 | (refine Ax9 rfl ?_; intro Kz hKz; simp -implicitDefEqProofs (disch := first | omega | (simp only [qd] <;> omega)) only [xq, ↓xp, qc, Nat.reduceAdd, List.range, List.range.loop, fine, Nat.reduceEqDiff, ↓reduceIte, yielded, reduceCtorEq, Nat.reduceLT, Nat.reduceMul, Nat.reduceSub, one, Nat.reduceLeDiff, Aqj, y55_157, aq, ↓ap, qe0, qe1, qe2, *, -g, -hKz, Option.isNone_none]; try (refine hKz _ _ ?_; clear hKz Kz))
 | (refine Ajt rfl ?_; intro Kz hKz; simp -implicitDefEqProofs (disch := first | omega | (simp only [qd] <;> omega)) only [xq, ↓xp, qc, Nat.reduceAdd, List.range, List.range.loop, fine, Nat.reduceEqDiff, ↓reduceIte, yielded, reduceCtorEq, Nat.reduceLT, Nat.reduceMul, Nat.reduceSub, one, Nat.reduceLeDiff, Aqj, y55_157, aq, ↓ap, qe0, qe1, qe2, *, -g, -hKz, Option.isNone_none]; try (refine hKz _ _ ?_; clear hKz Kz; (try simp only [nq, ↓reduceIte, Nat.reduceEqDiff])))
 | (refine Az8 ?_; (try simp only [nq, ↓reduceIte, Nat.reduceEqDiff]))
 | (refine Aje ?_; (try simp only [nq, ↓reduceIte, Nat.reduceEqDiff]))
 | (refine Aj6 ?_; (try simp only [nq, ↓reduceIte, Nat.reduceEqDiff]))
 | (refine Aki ?_; (try simp only [nq, ↓reduceIte, Nat.reduceEqDiff]))
 | (refine Ajs (by simp only [Axb, Axk, Nat.reduceEqDiff, Nat.reduceLT, ↓reduceIte, *, -g]; rfl) ?_ ?_ <;> (intro hcz; first | (exfalso; simp -implicitDefEqProofs (disch := omega) only [*, -g, bq, reduceCtorEq] at hcz; done) | (simp only [dq, qe3, qe4, qe5, qe6] at hcz) | skip))
 | (refine Ajm ?_)
 | (refine Azk ?_)
 | (refine Axs ?_))
 (try (revert Kz; refine unK ?_)); (repeat (revert hcz; refine unC ?_))
 exact Hid.out g) : Hid p := ⟨h ⟨g⟩⟩
theorem z1_157 {p q : Prop} (g : q) (h : Hid q -> p := by
 intro g
 repeat' (first
 | (refine Ax9 rfl ?_; intro Kz hKz; simp -implicitDefEqProofs (disch := first | omega | (simp only [qd] <;> omega)) only [xq, ↓xp, qc, Nat.reduceAdd, List.range, List.range.loop, fine, Nat.reduceEqDiff, ↓reduceIte, yielded, reduceCtorEq, Nat.reduceLT, Nat.reduceMul, Nat.reduceSub, one, Nat.reduceLeDiff, Aqj, y55_157, aq, ↓ap, qe0, qe1, qe2, *, -g, -hKz, Option.isNone_some]; try (refine hKz _ _ ?_; clear hKz Kz))
 | (refine Ajt rfl ?_; intro Kz hKz; simp -implicitDefEqProofs (disch := first | omega | (simp only [qd] <;> omega)) only [xq, ↓xp, qc, Nat.reduceAdd, List.range, List.range.loop, fine, Nat.reduceEqDiff, ↓reduceIte, yielded, reduceCtorEq, Nat.reduceLT, Nat.reduceMul, Nat.reduceSub, one, Nat.reduceLeDiff, Aqj, y55_157, aq, ↓ap, qe0, qe1, qe2, *, -g, -hKz, Option.isNone_some]; try (refine hKz _ _ ?_; clear hKz Kz; (try simp only [nq, ↓reduceIte, Nat.reduceEqDiff])))
 | (refine Az8 ?_; (try simp only [nq, ↓reduceIte, Nat.reduceEqDiff]))
 | (refine Aje ?_; (try simp only [nq, ↓reduceIte, Nat.reduceEqDiff]))
 | (refine Aj6 ?_; (try simp only [nq, ↓reduceIte, Nat.reduceEqDiff]))
 | (refine Aki ?_; (try simp only [nq, ↓reduceIte, Nat.reduceEqDiff]))
 | (refine Ajs (by simp only [Axb, Axk, Nat.reduceEqDiff, Nat.reduceLT, ↓reduceIte, *, -g]; rfl) ?_ ?_ <;> (intro hcz; first | (exfalso; simp -implicitDefEqProofs (disch := omega) only [*, -g, bq, reduceCtorEq] at hcz; done) | (simp only [dq, qe3, qe4, qe5, qe6] at hcz) | skip))
 | (refine Ajm ?_)
 | (refine Azk ?_)
 | (refine Axs ?_))
 (try (revert Kz; refine unK ?_)); (repeat (revert hcz; refine unC ?_))
 exact Hid.out g) : Hid p := ⟨h ⟨g⟩⟩
theorem cloneD_spec (m : Md) (H : Hp) (v : Value) (rows : List (List Value)) (hv : SlG 66 4 H v rows) (hl : rows.length <= 1000000) :
  FnX Tryz.prog m 55 #[v] H fun e H' => ∃ w, e = .returned w /\ SlG 66 4 H' w rows /\ H.le H' := by
 obtain ⟨a, n, cap, rfl⟩ := hv.isSlice
 obtain ⟨rfl, hcap⟩ := hv.len
 refine Aqo Tryz.func55 rfl Tryz.ntmps55 (by simp) ?_
 cases a with
 | none =>
  (refine @unH _ (z0_157 ?_); (repeat refine inC fun hc => ?_); try refine inK fun K hK => ?_)
  (refine @unH _ ?_; refine z9 Tryz.results55 ?_)
  refine ⟨_, rfl, ?_, Hp.le_refl _⟩
  have : rows = [] := by
   cases rows with
   | nil => rfl
   | cons r l => obtain ⟨_, _, _, _, _, h, _⟩ := hv.get (i := 0) (r := r) rfl; cases h
  subst this
  exact ⟨none, 0, rfl, Nat.le_refl _, fun i r hi => by simp at hi⟩
 | some ad =>
  (refine @unH _ (z1_157 ?_); (repeat refine inC fun hc => ?_); try refine inK fun K hK => ?_)
  intro nb hnb
  rw [range0]
  generalize hG : Hp.set H nb _ = H1
  have l1 := Aqc hG hnb
  have vnb := Aqb hG
  clear hG
  have h0 := (RowG.new0 (sz := 4) vnb).slG (by decide)
  have hv1 := SlG.le hv l1
  show wpS Tryz.prog (builtin .append #[23, 23] 23 #[false, false] #[.slice (some ⟨nb, 0, none⟩) 0 0, .slice (some ad) rows.length cap]) H1 _ _
  refine Bwh (by decide) Tryz.underlying23 Tryz.sizeOf66 Tryz.zeroValue66 rfl Tryz.typeInfo66 (by decide) (by decide) h0 hv1 (by omega) _ _ _ _ (fun v' H2 hr hl2 => ?_)
  rw [List.nil_append] at hr
  obtain ⟨_, _, _, rfl⟩ := hr.isSlice
  replace hr : Aqk _ := hr
  clear hv1 h0 hv
  ((try refine @unH _ (zX y55_157 ?_)); (try (refine hK _ _ ?_; clear hK K; try refine @unH _ (zQ ?_))); refine @unH _ (zA y55_157 ?_); (repeat refine inC fun hc => ?_); try refine inK fun K hK => ?_)
  (refine @unH _ ?_; refine z9 Tryz.results55 ?_)
  exact ⟨_, rfl, hr, Hp.le_trans l1 hl2⟩
def adΦ (H0 : Hp) (sb : Nat) (s : Sm) (n : Ns) (da : Option Addr) (dc : Nat) (ha : Option Addr) (kc : Nat) (na : Option Addr) (nc : Nat) : Nat -> Value -> Hp -> Prop
 | 0 => fun v _ => v = .pointer (some ⟨sb, 0, none⟩)
 | 1 => fun v _ => v = .int .i64 s.places
 | 2 => fun v _ => v = .pointer (some ⟨sb, 1, none⟩)
 | 3 => fun v _ => v = .slice da s.doors.length dc
 | 4 => fun v H => SlG 66 4 H v (s.doors.map Bju)
 | 5 => fun v _ => v = .pointer (some ⟨sb, 2, none⟩)
 | 6 => fun v _ => v = .slice ha s.hampers.length kc
 | 7 => fun v H => SlI H v s.hampers
 | 8 => fun v _ => v = .pointer (some ⟨sb, 3, none⟩)
 | 9 => fun v _ => v = .slice na s.noses.length nc
 | 10 => fun v _ => v = .int .i64 (s.noses.length : Nat)
 | 11 => fun v _ => v = .int .i64 (s.noses.length : Nat)
 | 12 => fun v _ => v = .slice na s.noses.length s.noses.length
 | 13 => fun v _ => v = .agg #[.int .i64 n.pl, .int .i64 n.hr, .bool n.sm]
 | 14 => fun v H => ∃ b, v = .slice (some ⟨b, 0, none⟩) 1 1 /\ H b = some (true, .cells #[.int .i64 n.pl, .int .i64 n.hr, .bool n.sm] 46 (0, 0))
 | 15 => fun v H => SlG 46 3 H v ((s.noses ++ [n]).map Bjy)
 | 16 => fun v H => ∃ a b c, v = smV s.places a b c /\ SmIn H a b c (withS s n)
 | 17 => fun v H => ∃ b, v = .pointer (some ⟨b, 0, none⟩) /\ H b = some (true, smO 0 (.slice none 0 0) (.slice none 0 0) (.slice none 0 0)) /\ H0 b = none
 | _ => fun _ _ => True
theorem adΦ_le {H0 : Hp} {sb : Nat} {s : Sm} {n : Ns} {da : Option Addr} {dc : Nat} {ha : Option Addr} {kc : Nat} {na : Option Addr} {nc : Nat} : ∀ (k : Nat) (v : Value) (H H' : Hp), adΦ H0 sb s n da dc ha kc na nc k v H -> H.le H' -> adΦ H0 sb s n da dc ha kc na nc k v H'
 | 0, _, _, _, h, _ | 1, _, _, _, h, _ | 2, _, _, _, h, _ | 3, _, _, _, h, _ | 5, _, _, _, h, _ | 6, _, _, _, h, _ | 8, _, _, _, h, _ | 9, _, _, _, h, _ | 10, _, _, _, h, _ | 11, _, _, _, h, _ | 12, _, _, _, h, _ | 13, _, _, _, h, _ => h
 | 4, _, _, _, h, hl => SlG.le h hl
 | 7, _, _, _, h, hl => SlI.le h hl
 | 14, _, _, _, ⟨b, h1, h2⟩, hl => ⟨b, h1, hl _ _ h2⟩
 | 15, _, _, _, h, hl => SlG.le h hl
 | 16, _, _, _, ⟨a, b, c, h1, h2⟩, hl => ⟨a, b, c, h1, h2.le hl⟩
 | 17, _, _, _, ⟨b, h1, h2, h3⟩, hl => ⟨b, h1, hl _ _ h2, h3⟩
 | _ + 18, _, _, _, _, _ => trivial
theorem sAdd_spec (H : Hp) (s : Sm) (dv hv nv : Value) (hs : SmIn H dv hv nv s) (ok : SmOk s) (n : Ns) (hn : NsOk s.places n) (hl : s.noses.length < 4) :
  FnX Tryz.prog (.wg Tryz.prog) 19 #[smV s.places dv hv nv, .agg #[.int .i64 n.pl, .int .i64 n.hr, .bool n.sm]] H fun e H' => ((0 < Azi s /\ Azi (withS s n) = 0) /\ e = .returned (.tuple #[smV 0 (.slice none 0 0) (.slice none 0 0) (.slice none 0 0), .int .i64 9]) ∨ ¬ (0 < Azi s /\ Azi (withS s n) = 0) /\ ∃ a b c, e = .returned (.tuple #[smV s.places a b c, .int .i64 0]) /\ SmIn H' a b c (withS s n)) /\ H.le H' := by
 obtain ⟨da, dc, ha, kc, na, nc, rfl, rfl, rfl, l1, l2, l3⟩ := hs.forms
 have hdl := ok.dl
 have hh1 := ok.h1
 refine Aqo Tryz.func19 rfl Tryz.ntmps19 (by simp) ?_
 (refine @unH _ (zA y19_157 ?_); (repeat refine inC fun hc => ?_); try refine inK fun K hK => ?_)
 (intro sb hsb nb hnb rb hrb; replace hrb : (Hp.set (Hp.set _ sb _) nb _) rb = none := hrb; replace hnb : (Hp.set _ sb _) nb = none := hnb; generalize hG : Hp.set _ sb _ = H1 at hnb hrb ⊢; have lH1 := Aqc hG hsb; have wsb := Aqb hG; clear hG; generalize hG : Hp.set _ nb _ = H2 at hrb ⊢; have lH2 := Aqc hG hnb; have wnb := Aqb hG; have nsbnb := Aqq wsb hnb; replace wsb := lH2 _ _ wsb; clear hG; generalize hG : Hp.set _ rb _ = H3; have lH3 := Aqc hG hrb; have vrb := Aqb hG; have vsb := lH3 _ _ wsb; have vnb := lH3 _ _ wnb; have nsbrb := Aqq wsb hrb; have nnbrb := Aqq wnb hrb; clear hG wsb wnb)
 have lb := Hp.le_trans lH1 (Hp.le_trans lH2 lH3)
 have hrb0 : H rb = none := Hp.le_none (Hp.le_trans lH1 lH2) hrb
 clear lH1 lH2 lH3 hsb hnb hrb
 ((try refine @unH _ (zX y19_157 ?_)); (try (refine hK _ _ ?_; clear hK K; try refine @unH _ (zQ ?_))); refine @unH _ (zA y19_157 ?_); (repeat refine inC fun hc => ?_); try refine inK fun K hK => ?_)
 refine (Avr _ H3 s _ _ _ (hs.le lb) ok).runs.mono ?_
 rintro _ H4 ⟨rfl, l4⟩
 have lb4 := Hp.le_trans lb l4
 have vsb4 := l4 _ _ vsb
 have vnb4 := l4 _ _ vnb
 have vrb4 := l4 _ _ vrb
 clear lb l4 vsb vnb vrb
 ((try refine @unH _ (zX y19_157 ?_)); (try (refine hK _ _ ?_; clear hK K; try refine @unH _ (zQ ?_))); refine @unH _ (zA y19_157 ?_); (repeat refine inC fun hc => ?_); try refine inK fun K hK => ?_)
 refine (Bwr _ H4 s.places _ _ _ n (s.noses.length : Nat) hn ok.p1 rfl rfl rfl).runs.mono ?_
 rintro _ H5 ⟨rfl, l5⟩
 have lb5 := Hp.le_trans lb4 l5
 have vsb5 := l5 _ _ vsb4
 have vnb5 := l5 _ _ vnb4
 have vrb5 := l5 _ _ vrb4
 have hs5 := hs.le lb5
 clear lb4 l5 vsb4 vnb4 vrb4
 ((try refine @unH _ (zX y19_157 ?_)); (try (refine hK _ _ ?_; clear hK K; try refine @unH _ (zQ ?_))); refine @unH _ (zA y19_157 ?_); (repeat refine inC fun hc => ?_); try refine inK fun K hK => ?_)
 have vrb0 := hrb0
 refine Bkv (fun e => e 2 = .pointer (some ⟨sb, 0, none⟩) /\ e 3 = .pointer (some ⟨nb, 0, none⟩) /\ e 4 = .pointer (some ⟨rb, 0, none⟩) /\ e 5 = .int .i64 0 /\ e 7 = .int .i64 (s.noses.length : Nat)) ⟨rfl, rfl, rfl, rfl, rfl⟩ ?_
 rintro e0 ⟨f2, f3, f4, f5, f7⟩
 refine wpX_glast (adΦ H5 sb s n da dc ha kc na nc) (by kernel_rfl) (by kernel_rfl) adΦ_le ?_; intro K hK
 (refine growAll_cons ?_ ?_; (focus (intro e HX hle he hd; have e1 : e 2 = .pointer (some ⟨sb, 0, none⟩) := (he 2 (by kernel_rfl)).trans f2; clear he hd; refine ⟨by rfl, ?_⟩; (refine @unH _ ?_; refine zX y19_157 ?_); exact ⟨Hp.le_refl _, _, rfl, rfl⟩)))
 (refine growAll_cons ?_ ?_; (focus (intro e HX hle he hd; have vx := hle _ _ vsb5; have e1 : e 31 = _ := hd 0 31 (by kernel_rfl); clear he hd; refine ⟨by rfl, ?_⟩; (refine @unH _ ?_; refine zX y19_157 ?_); exact ⟨Hp.le_refl _, _, rfl, rfl⟩)))
 (refine growAll_cons ?_ ?_; (focus (intro e HX hle he hd; have e1 : e 2 = .pointer (some ⟨sb, 0, none⟩) := (he 2 (by kernel_rfl)).trans f2; clear he hd; refine ⟨by rfl, ?_⟩; (refine @unH _ ?_; refine zX y19_157 ?_); exact ⟨Hp.le_refl _, _, rfl, rfl⟩)))
 (refine growAll_cons ?_ ?_; (focus (intro e HX hle he hd; have vx := hle _ _ vsb5; have e1 : e 33 = _ := hd 2 33 (by kernel_rfl); clear he hd; refine ⟨by rfl, ?_⟩; (refine @unH _ ?_; refine zX y19_157 ?_); exact ⟨Hp.le_refl _, _, rfl, rfl⟩)))
 refine growAll_cons ?_ ?_
 ·intro e HX hle he hd
  have e1 : e 34 = _ := hd 3 34 (by kernel_rfl)
  clear he hd
  refine ⟨by rfl, ?_⟩
  (refine @unH _ ?_; refine zX y19_157 ?_)
  refine (cloneD_spec _ HX _ _ (SlG.le hs5.dd hle) (by rw [List.length_map]; omega)).runs.mono ?_
  rintro _ H' ⟨w, rfl, hw, hl2⟩
  simp -implicitDefEqProofs (disch := omega) only [Azw, Aq3, Aqm]
  exact ⟨hl2, _, rfl, hw⟩
 (refine growAll_cons ?_ ?_; (focus (intro e HX hle he hd; have e1 : e 2 = .pointer (some ⟨sb, 0, none⟩) := (he 2 (by kernel_rfl)).trans f2; clear he hd; refine ⟨by rfl, ?_⟩; (refine @unH _ ?_; refine zX y19_157 ?_); exact ⟨Hp.le_refl _, _, rfl, rfl⟩)))
 (refine growAll_cons ?_ ?_; (focus (intro e HX hle he hd; have vx := hle _ _ vsb5; have e1 : e 36 = _ := hd 5 36 (by kernel_rfl); clear he hd; refine ⟨by rfl, ?_⟩; (refine @unH _ ?_; refine zX y19_157 ?_); exact ⟨Hp.le_refl _, _, rfl, rfl⟩)))
 refine growAll_cons ?_ ?_
 ·intro e HX hle he hd
  have e1 : e 37 = _ := hd 6 37 (by kernel_rfl)
  clear he hd
  refine ⟨by rfl, ?_⟩
  (refine @unH _ ?_; refine zX y19_157 ?_)
  refine (Cje _ HX _ s.hampers (hs5.hh.le hle) (by omega)).runs.mono ?_
  rintro _ H' ⟨w, rfl, hw⟩
  simp -implicitDefEqProofs (disch := omega) only [Azw, Aq3, Aqm]
  exact ⟨hw.1.toLe, _, rfl, SlG.ints1 ((rowX_G hw).1.slG (by decide))⟩
 (refine growAll_cons ?_ ?_; (focus (intro e HX hle he hd; have e1 : e 2 = .pointer (some ⟨sb, 0, none⟩) := (he 2 (by kernel_rfl)).trans f2; clear he hd; refine ⟨by rfl, ?_⟩; (refine @unH _ ?_; refine zX y19_157 ?_); exact ⟨Hp.le_refl _, _, rfl, rfl⟩)))
 (refine growAll_cons ?_ ?_; (focus (intro e HX hle he hd; have vx := hle _ _ vsb5; have e1 : e 39 = _ := hd 8 39 (by kernel_rfl); clear he hd; refine ⟨by rfl, ?_⟩; (refine @unH _ ?_; refine zX y19_157 ?_); exact ⟨Hp.le_refl _, _, rfl, rfl⟩)))
 (refine growAll_cons ?_ ?_; (focus (intro e HX hle he hd; have e1 : e 7 = .int .i64 (s.noses.length : Nat) := (he 7 (by kernel_rfl)).trans f7; clear he hd; refine ⟨by rfl, ?_⟩; (refine @unH _ ?_; refine zX y19_157 ?_); exact ⟨Hp.le_refl _, _, rfl, rfl⟩)))
 (refine growAll_cons ?_ ?_; (focus (intro e HX hle he hd; have e1 : e 7 = .int .i64 (s.noses.length : Nat) := (he 7 (by kernel_rfl)).trans f7; clear he hd; refine ⟨by rfl, ?_⟩; (refine @unH _ ?_; refine zX y19_157 ?_); exact ⟨Hp.le_refl _, _, rfl, rfl⟩)))
 refine growAll_cons ?_ ?_
 ·intro e HX hle he hd
  have e1 : e 40 = _ := hd 9 40 (by kernel_rfl)
  have e2 : e 41 = _ := hd 10 41 (by kernel_rfl)
  have e3 : e 42 = _ := hd 11 42 (by kernel_rfl)
  clear he hd
  refine ⟨by rfl, ?_⟩
  (refine @unH _ ?_; refine zX y19_157 ?_)
  exact ⟨Hp.le_refl _, _, rfl, rfl⟩
 (refine growAll_cons ?_ ?_; (focus (intro e HX hle he hd; have vx := hle _ _ vnb5; have e1 : e 3 = .pointer (some ⟨nb, 0, none⟩) := (he 3 (by kernel_rfl)).trans f3; clear he hd; refine ⟨by rfl, ?_⟩; simp -implicitDefEqProofs (disch := first | omega | (simp only [qd] <;> omega)) only [xq, ↓xp, qc, Nat.reduceAdd, List.range, List.range.loop, fine, Nat.reduceEqDiff, ↓reduceIte, yielded, reduceCtorEq, Nat.reduceLT, Nat.reduceMul, Nat.reduceSub, one, Nat.reduceLeDiff, Aqj, y19_157, aq, ↓ap, qe0, qe1, qe2, *, -hK, Aw3 vx]; exact ⟨Hp.le_refl _, _, rfl, rfl⟩)))
 refine growAll_cons ?_ ?_
 ·intro e HX hle he hd
  have e1 : e 44 = _ := hd 13 44 (by kernel_rfl)
  clear he hd
  refine ⟨by rfl, ?_⟩
  (refine @unH _ ?_; refine zX y19_157 ?_)
  intro b hb
  exact ⟨Hp.le_set hb, _, rfl, b, rfl, Axf⟩
 refine growAll_cons ?_ ?_
 ·intro e HX hle he hd
  have e1 : e 43 = _ := hd 12 43 (by kernel_rfl)
  obtain ⟨g, e2, vg⟩ := hd 14 45 (by kernel_rfl)
  clear he hd
  refine ⟨by rfl, ?_⟩
  (refine @unH _ ?_; refine zX y19_157 ?_)
  have hn0 := SlG.hi (SlG.le hs5.nn hle) (k := s.noses.length) (Nat.le_refl _)
  rw [List.take_of_length_le (by rw [List.length_map]; exact Nat.le_refl _)] at hn0
  refine Bwh (by decide) Tryz.underlying24 Tryz.sizeOf46 Tryz.zeroValue46 rfl Tryz.typeInfo46 (by decide) (by decide) hn0 (slG_one (ws := Bjy n) rfl vg) (by omega) _ _ _ _ (fun v' H' hr hl2 => ?_)
  (refine @unH _ ?_; refine zX y19_157 ?_)
  exact ⟨_, rfl, by show SlG _ _ _ _ _; rw [List.map_append]; exact hr⟩
 refine growAll_cons ?_ ?_
 ·intro e HX hle he hd
  have e4 : e 32 = _ := hd 1 32 (by kernel_rfl)
  have g1 : SlG 66 4 HX (e 35) _ := hd 4 35 (by kernel_rfl)
  have g2 : SlI HX (e 38) _ := hd 7 38 (by kernel_rfl)
  have g3 : SlG 46 3 HX (e 46) _ := hd 15 46 (by kernel_rfl)
  clear he hd
  generalize h8 : e 35 = v8 at *
  generalize h11 : e 38 = v11 at *
  generalize h15 : e 46 = v15 at *
  have hg : SmIn HX v8 v11 v15 (withS s n) := ⟨g1, g2, g3⟩
  obtain ⟨_, _, _, rfl⟩ := g1.isSlice
  obtain ⟨_, _, _, rfl⟩ := g2.isSlice
  obtain ⟨_, _, _, rfl⟩ := g3.isSlice
  replace hg : Aqk _ := hg
  clear g1 g2 g3
  refine ⟨by rfl, ?_⟩
  (refine @unH _ ?_; refine zX y19_157 ?_)
  exact ⟨Hp.le_refl _, _, rfl, _, _, _, rfl, hg⟩
 refine growAll_cons ?_ ?_
 ·intro e HX hle he hd
  clear he hd
  refine ⟨by rfl, ?_⟩
  (refine @unH _ ?_; refine zX y19_157 ?_)
  intro b hb
  exact ⟨Hp.le_set hb, _, rfl, b, rfl, Axf, Hp.le_none hle hb⟩
 refine growAll_one ?_
 intro e HX hle he hd
 obtain ⟨va, vb, vc, e47, hg⟩ := hd 16 47 (by kernel_rfl)
 obtain ⟨tb, e9, vtb, htb⟩ := hd 17 9 (by kernel_rfl)
 have e2 : e 2 = .pointer (some ⟨sb, 0, none⟩) := (he 2 (by kernel_rfl)).trans f2
 have e4 : e 4 = .pointer (some ⟨rb, 0, none⟩) := (he 4 (by kernel_rfl)).trans f4
 have vsb := hle _ _ vsb5
 have vrb := hle _ _ vrb5
 clear he hd
 have hgf := hg
 obtain ⟨_, _, _, _, _, _, rfl, rfl, rfl, -, -, -⟩ := hgf.forms
 replace hg : Aqk _ := hg
 clear hgf
 refine ⟨by rfl, ?_⟩
 (refine @unH _ ?_; refine zX y19_157 ?_)
 refine hK _ _ ?_
 clear hK K
 generalize hG : Hp.set HX tb _ = H6
 have vtb6 := Aqb hG
 have nts : tb ≠ sb := fun e => by rw [e, vsb5] at htb; cases htb
 have ntr : tb ≠ rb := fun e => by rw [e, vrb5] at htb; cases htb
 have vsb6 : H6 sb = HX sb := by rw [<- hG, Aqw (Ne.symm nts)]
 have vrb6 : H6 rb = HX rb := by rw [<- hG, Aqw (Ne.symm ntr)]
 rw [vsb] at vsb6
 rw [vrb] at vrb6
 have hg6 : SmIn H6 _ _ _ (withS s n) := hG ▸ (show SmIn HX _ _ _ (withS s n) from hg).put vtb _
 have hs6 : SmIn H6 _ _ _ s := hG ▸ (hs5.le hle).put vtb _
 have lb6 : H.le H6 := hG ▸ Az9 (Hp.le_trans lb5 hle) (Hp.le_none lb5 htb)
 clear hG hg hs5 hle lb5 vsb vrb vtb vsb5 vrb5 vnb5 htb
 replace hg6 : Aqk _ := hg6
 replace hs6 : Aqk _ := hs6
 (try refine @unH _ (zQ ?_))
 refine Bkv (fun e => e 2 = .pointer (some ⟨sb, 0, none⟩) /\ e 4 = .pointer (some ⟨rb, 0, none⟩) /\ e 9 = .pointer (some ⟨tb, 0, none⟩)) ⟨e2, e4, e9⟩ ?_
 clear e2 e4 e9 e47 f2 f3 f4 f5 f7 e e0
 rintro e ⟨e2, e4, e9⟩
 have hC1 := Cww H6 s _ _ _ hs6 ok
 have hC2 := fun H (l : H6.le H) => Cww H (withS s n) _ _ _ ((show SmIn H6 _ _ _ (withS s n) from hg6).le l) (withS_ok ok hn hl)
 replace hC1 : Aqk _ := hC1
 replace hC2 : Aqk _ := hC2
 refine Axs (Axs (wpX_rz 7 (by rfl) ?_))
 intro K hK ops hOz
 (iterate 2 (refine @unH _ ?_; refine zR y19_157 ?_))
 refine (show FnX _ _ _ _ _ _ from hC1).runs.mono ?_
 rintro _ H7 ⟨rfl, l7⟩
 have vtb7 := l7 _ _ vtb6
 have vrb7 := l7 _ _ vrb6
 have lb7 := Hp.le_trans lb6 l7
 have hg7 := (show SmIn H6 _ _ _ (withS s n) from hg6).le l7
 by_cases hcs : 0 < Azi s
 ·rw [decide_eq_true hcs]
  replace hg7 : Aqk _ := hg7
  clear vtb6 vrb6 lb6 hC1
  simp -implicitDefEqProofs (disch := omega) only [Azw, Aq3, Aqm]
  (iterate 3 (refine @unH _ ?_; refine zR y19_157 ?_))
  refine ((show ∀ H, _ -> _ from hC2) H7 l7).runs.mono ?_
  rintro _ H8 ⟨rfl, l8⟩
  have vtb8 := l8 _ _ vtb7
  have vrb8 := l8 _ _ vrb7
  have lb8 := Hp.le_trans lb7 l8
  have hg8 := (show SmIn H7 _ _ _ (withS s n) from hg7).le l8
  clear hC2 vtb7 vrb7 lb7 hg7 l7 l8
  replace hg8 : Aqk _ := hg8
  by_cases hcn : 0 < Azi (withS s n)
  ·rw [decide_eq_true hcn]
   simp -implicitDefEqProofs (disch := omega) only [Azw, Aq3, Aqm]
   (iterate 2 (refine @unH _ ?_; refine zR y19_157 ?_))
   (refine RZ_nil ?_; refine hK _ _ ?_; clear hK K; (try simp only [nq, ↓reduceIte, Nat.reduceEqDiff]))
   (refine @unH _ (zA y19_157 ?_); (repeat refine inC fun hc => ?_); try refine inK fun K hK => ?_)
   (refine Axr ?_; (try simp only [nq, ↓reduceIte, Nat.reduceEqDiff]); rw [Aq6, results_cell_tmp Tryz.results19 (by decide) (by decide) (b := rb) (o := 0) ?hcell Tryz.underlying26 rfl Tryz.sizeOf26]; (case hcell => exact e4); simp -implicitDefEqProofs (disch := first | omega | (simp only [qd] <;> omega)) only [xq, ↓xp, qc, Nat.reduceAdd, List.range, List.range.loop, fine, Nat.reduceEqDiff, ↓reduceIte, yielded, reduceCtorEq, Nat.reduceLT, Nat.reduceMul, Nat.reduceSub, one, Nat.reduceLeDiff, Aqj, y19_157, Axl, List.extract_toArray])
   have hg8' : SmIn H8 _ _ _ (withS s n) := hg8
   exact ⟨.inr ⟨by omega, _, _, _, rfl, hg8'.put vrb8 _⟩, Az9 lb8 hrb0⟩
  ·rw [decide_eq_false hcn]
   simp -implicitDefEqProofs (disch := omega) only [Azw, Aq3, Aqm]
   (iterate 2 (refine @unH _ ?_; refine zR y19_157 ?_))
   (refine RZ_nil ?_; refine hK _ _ ?_; clear hK K; (try simp only [nq, ↓reduceIte, Nat.reduceEqDiff]))
   (refine @unH _ (zA y19_157 ?_); (repeat refine inC fun hc => ?_); try refine inK fun K hK => ?_)
   (refine Axr ?_; (try simp only [nq, ↓reduceIte, Nat.reduceEqDiff]); rw [Aq6, results_cell_tmp Tryz.results19 (by decide) (by decide) (b := rb) (o := 0) ?hcell Tryz.underlying26 rfl Tryz.sizeOf26]; (case hcell => exact e4); simp -implicitDefEqProofs (disch := first | omega | (simp only [qd] <;> omega)) only [xq, ↓xp, qc, Nat.reduceAdd, List.range, List.range.loop, fine, Nat.reduceEqDiff, ↓reduceIte, yielded, reduceCtorEq, Nat.reduceLT, Nat.reduceMul, Nat.reduceSub, one, Nat.reduceLeDiff, Aqj, y19_157, Axl, List.extract_toArray])
   exact ⟨.inl ⟨hcs, by omega⟩, Az9 lb8 hrb0⟩
 ·rw [decide_eq_false hcs]
  replace hg7 : Aqk _ := hg7
  clear vtb6 vrb6 lb6 hC1 hC2
  simp -implicitDefEqProofs (disch := omega) only [Azw, Aq3, Aqm]
  (iterate 5 (refine @unH _ ?_; refine zR y19_157 ?_))
  (refine RZ_nil ?_; refine hK _ _ ?_; clear hK K; (try simp only [nq, ↓reduceIte, Nat.reduceEqDiff]))
  (refine @unH _ (zA y19_157 ?_); (repeat refine inC fun hc => ?_); try refine inK fun K hK => ?_)
  (refine Axr ?_; (try simp only [nq, ↓reduceIte, Nat.reduceEqDiff]); rw [Aq6, results_cell_tmp Tryz.results19 (by decide) (by decide) (b := rb) (o := 0) ?hcell Tryz.underlying26 rfl Tryz.sizeOf26]; (case hcell => exact e4); simp -implicitDefEqProofs (disch := first | omega | (simp only [qd] <;> omega)) only [xq, ↓xp, qc, Nat.reduceAdd, List.range, List.range.loop, fine, Nat.reduceEqDiff, ↓reduceIte, yielded, reduceCtorEq, Nat.reduceLT, Nat.reduceMul, Nat.reduceSub, one, Nat.reduceLeDiff, Aqj, y19_157, Axl, List.extract_toArray])
  have hg7' : SmIn H7 _ _ _ (withS s n) := hg7
  exact ⟨.inr ⟨by omega, _, _, _, rfl, hg7'.put vrb7 _⟩, Az9 lb7 hrb0⟩
end Go.Proofs.YtnfnaehonkbknaaGreatDoor
end
section
namespace Go.Proofs.YtnfnaehonkbknaaGreatDoor
open Go Go.X
section
variable {s : Sm} (ok : SmOk s) {n : Ns} (okx : SmOk (withS s n))
include ok okx
theorem nose_count : Azi (withS s n) <= Azi s := count_sub okx ok fun i b ts h => ⟨ts, (tr_withS.1 h).1⟩
theorem nose_verd (hex : Azi (withS s n) ≠ 0) {p : Int} (p0 : 0 <= p) (p1 : p < s.places) {h : Int} (h0 : 0 <= h) (h1 : h <= 12) : ∃ v w, Cyi s p h = v /\ begE s [p] h = 0 /\ Cyi (withS s n) p h = w /\ begE (withS s n) [p] h = 0 /\ (v = 3 ∨ v ≠ 3 /\ w = v) := by
 have hx := (Dxc okx).1 hex
 obtain ⟨i, b, ts, ht⟩ := hx
 have ht' := (tr_withS.1 ht).1
 have hb := begE_p ok ht' p0 p1 h0 h1
 have hb' := begE_p okx ht (p := p) p0 p1 h0 h1
 refine ⟨_, _, rfl, hb, rfl, hb', ?_⟩
 unfold Cyi
 rw [if_pos hb, if_pos hb']
 rcases verd_in (arrL (susp s) p) h with e | e | e
 ·refine .inr ⟨by omega, ?_⟩
  rw [e, verd_always okx (p := p) p0 p1 ⟨_, _, _, ht⟩ h1]
  intro i b ts g
  exact (verd_always ok p0 p1 ⟨_, _, _, ht'⟩ h1).1 e i b ts (tr_withS.1 g).1
 ·refine .inr ⟨by omega, ?_⟩
  rw [e, verd_never okx (p := p) p0 p1 ⟨_, _, _, ht⟩ h1]
  intro i b ts g
  exact (verd_never ok p0 p1 ⟨_, _, _, ht'⟩ h1).1 e i b ts (tr_withS.1 g).1
 ·exact .inl e
theorem nose_safe (hex : Azi (withS s n) ≠ 0) {p : Int} (p0 : 0 <= p) (p1 : p < s.places) : begE s [p] 0 = 0 /\ begE (withS s n) [p] 0 = 0 /\ ¬ Bye (withS s n) p < Bye s p := by
 have hx := (Dxc okx).1 hex
 obtain ⟨i, b, ts, ht⟩ := hx
 have ht' := (tr_withS.1 ht).1
 have hb := begE_p ok ht' p0 p1 (hr := 0) (by omega) (by omega)
 have hb' := begE_p okx ht (p := p) p0 p1 (hr := 0) (by omega) (by omega)
 refine ⟨hb, hb', ?_⟩
 have hk := safe_le hb
 have g1 := (safe_tr ok p0 p1 ⟨_, _, _, ht'⟩ hk).1 (Int.le_refl _)
 have g2 := (safe_tr okx (p := p) p0 p1 ⟨_, _, _, ht⟩ hk).2 fun i b ts g => g1 i b ts (tr_withS.1 g).1
 omega
end
end Go.Proofs.YtnfnaehonkbknaaGreatDoor
end
section
namespace Go.Proofs.YtnfnaehonkbknaaGreatDoor
open Go Go.X
def y4_165 := And.intro @callF8 (And.intro @callF7 (And.intro (fun H => Aqv (H := H) (P := Tryz.prog) (h := Tryz.zeroValue26)) (And.intro (fun H => Aqr (H := H) Tryz.sizeOf26) (And.intro (fun H => Aqd (H := H) Tryz.underlying26 (i := 0) rfl (off := 0) rfl Tryz.sizeOf3) (And.intro (fun H => Aqg (H := H) Tryz.underlying3 rfl) (And.intro @Bq2 (And.intro @Dzz (And.intro @Ck9 (And.intro (fun H => Aqv (H := H) (P := Tryz.prog) (h := Tryz.zeroValue46)) (And.intro (fun H => Aqr (H := H) Tryz.sizeOf46) (And.intro (fun H => Aqp (H := H) Tryz.underlying26 rfl Tryz.sizeOf26) (And.intro (fun H => Aqp (H := H) Tryz.underlying46 rfl Tryz.sizeOf46) (And.intro @callF17 (And.intro @Dz0 (And.intro @callF19 (And.intro @callF13 (And.intro @callF20 (And.intro @Dzy @callF11))))))))))))))))))
theorem lsnose_spec (H : Hp) (sa : Option Addr) (sl sc : Nat) (hs : ∀ i : Nat, i < sl -> ∃ sb so c e fr x, sa = some ⟨sb, so, none⟩ /\ H sb = some (false, .cells c e fr) /\ c[so + i]? = some (.int .i64 x)) :
  FnX Tryz.prog (.wg Tryz.prog) 4 #[.slice sa sl sc] H fun e _ => e = .returned (.bool true) := by
 refine Aqo Tryz.func4 rfl Tryz.ntmps4 (by simp) ?_
 (refine @unH _ (zA y4_165 ?_); (repeat refine inC fun hc => ?_); try refine inK fun K hK => ?_)
 refine (newTin_spec _ H sa sl sc hs 240 (by omega)).runs.mono ?_
 rintro _ H1 ⟨tb, rfl, l1, hT⟩
 ((try refine @unH _ (zX y4_165 ?_)); (try (refine hK _ _ ?_; clear hK K; try refine @unH _ (zQ ?_))); refine @unH _ (zA y4_165 ?_); (repeat refine inC fun hc => ?_); try refine inK fun K hK => ?_)
 refine (smellOf_spec _ H1 tb 180 4 true (by omega) (by omega) hT).runs.mono ?_
 rintro _ H2 ⟨s, dv, hv, nv, cv, i, hr, ts, rfl, hs2, ok, hp5, hdl, hnl, hil, hr12, htk, hcv, htr, lex2, hT2, -⟩
 clear hT hs l1 lex2
 obtain ⟨da, dc, ha, kc, na, nc, rfl, rfl, rfl, l1, l2, l3⟩ := hs2.forms
 have htr := htr rfl
 ((try refine @unH _ (zX y4_165 ?_)); (try (refine hK _ _ ?_; clear hK K; try refine @unH _ (zQ ?_))); refine @unH _ (zA y4_165 ?_); (repeat refine inC fun hc => ?_); try refine inK fun K hK => ?_)
 (intro sb hsb; generalize hG : Hp.set _ sb _ = H3; have lH3 := Aqc hG hsb; have vsb := Aqb hG; clear hG)
 have hs3 := hs2.le lH3
 have hT3 := hT2.le lH3
 have hsn := hT2.ne hsb
 have hp0 := ok.p0
 have hh1 := ok.h1
 have hd1 := ok.dl
 have hns : 0 < Azi s := by have := (Dxc ok).2 ⟨_, _, _, htr⟩; omega
 clear hs2 lH3 hsb hT2 hcv htk htr hdl
 ((try refine @unH _ (zX y4_165 ?_)); (try (refine hK _ _ ?_; clear hK K; try refine @unH _ (zQ ?_))); refine @unH _ (zA y4_165 ?_); (repeat refine inC fun hc => ?_); try refine inK fun K hK => ?_)
 refine (Bjz _ H3 tb 179 (s.places - 1) (by have := ok.p1; omega) hT3).runs.mono ?_
 rintro _ H4 ⟨np, np0, np1, rfl, x4, hT4⟩
 have vsb4 := x4.keeps vsb hsn
 ((try refine @unH _ (zX y4_165 ?_)); (try (refine hK _ _ ?_; clear hK K; try refine @unH _ (zQ ?_))); refine @unH _ (zA y4_165 ?_); (repeat refine inC fun hc => ?_); try refine inK fun K hK => ?_)
 refine (Bjz _ H4 tb 178 12 (by omega) hT4).runs.mono ?_
 rintro _ H5 ⟨nh, nh0, nh1, rfl, x5, hT5⟩
 have vsb5 := x5.keeps vsb4 hsn
 ((try refine @unH _ (zX y4_165 ?_)); (try (refine hK _ _ ?_; clear hK K; try refine @unH _ (zQ ?_))); refine @unH _ (zA y4_165 ?_); (repeat refine inC fun hc => ?_); try refine inK fun K hK => ?_)
 refine (Cws _ H5 tb 177 2 (by omega) (by omega) hT5).runs.mono ?_
 rintro _ H6 ⟨nsm, rfl, x6, hT6⟩
 have vsb6 := x6.keeps vsb5 hsn
 have x36 := (x4.trans x5).trans x6
 clear x4 x5 x6 hT4 hT5 vsb4 vsb5
 ((try refine @unH _ (zX y4_165 ?_)); (try (refine hK _ _ ?_; clear hK K; try refine @unH _ (zQ ?_))); refine @unH _ (zA y4_165 ?_); (repeat refine inC fun hc => ?_); try refine inK fun K hK => ?_)
 refine (Aw8 _ H6 np nh nsm).runs.mono ?_
 rintro _ H7 ⟨rfl, l67⟩
 ((try refine @unH _ (zX y4_165 ?_)); (try (refine hK _ _ ?_; clear hK K; try refine @unH _ (zQ ?_))); refine @unH _ (zA y4_165 ?_); (repeat refine inC fun hc => ?_); try refine inK fun K hK => ?_)
 (intro nb hnb; generalize hG : Hp.set _ nb _ = H8; have lH8 := Aqc hG hnb; have vnb := Aqb hG; clear hG)
 have l68 := Hp.le_trans l67 lH8
 have vsb8 := l68 _ _ vsb6
 have hs8 := (hs3.lexT hT3 x36).le l68
 have hT8 := hT6.le l68
 have hnk : NsOk s.places ⟨np, nh, nsm⟩ := ⟨np0, by simp only; omega, nh0, by simp only; omega⟩
 have okx := withS_ok ok hnk (by omega)
 clear l67 lH8 l68 vsb6 hT6 x36 hs3 hT3 hnb vsb
 have hWi := with_spec (.wg Tryz.prog) H8 s _ _ _ hs8 ⟨np, nh, nsm⟩ (by omega)
 replace hWi : Aqk _ := hWi
 ((try refine @unH _ (zX y4_165 ?_)); (try (refine hK _ _ ?_; clear hK K; try refine @unH _ (zQ ?_))); refine @unH _ (zA y4_165 ?_); (repeat refine inC fun hc => ?_); try refine inK fun K hK => ?_)
 refine (show FnX _ _ _ _ _ _ from hWi).runs.mono ?_
 rintro _ H9 ⟨nw, rfl, hw9, l89⟩
 obtain ⟨wa, wn, wc, rfl⟩ := SlN.isSlice hw9.nn
 have l9 := l89
 have vsb9 := l89 _ _ vsb8
 replace hw9 : Aqk _ := hw9
 clear hWi
 ((try refine @unH _ (zX y4_165 ?_)); (try (refine hK _ _ ?_; clear hK K; try refine @unH _ (zQ ?_))); refine @unH _ (zA y4_165 ?_); (repeat refine inC fun hc => ?_); try refine inK fun K hK => ?_)
 (intro xb hxb; generalize hG : Hp.set _ xb _ = H10; have lH10 := Aqc hG hxb; have vxb := Aqb hG; clear hG)
 have l8a := Hp.le_trans l89 lH10
 have vsb10 := l8a _ _ vsb8
 have vnb10 := l8a _ _ vnb
 have hs10 := hs8.le l8a
 have hx10 := SmIn.le (show SmIn H9 _ _ _ (withS s ⟨np, nh, nsm⟩) from hw9) lH10
 have hT10 := hT8.le l8a
 have hT8' := hT8.le l89
 clear l89 lH10 l8a l9 vsb8 vsb9 vnb hs8 hT8 hw9
 have hC1 := Cq9 H10 s _ _ _ hs10 ok
 have hC2 := fun H (l : H10.le H) => Cq9 H (withS s ⟨np, nh, nsm⟩) _ _ _ (hx10.le l) okx
 have hAd := fun H (l : H10.le H) => sAdd_spec H s _ _ _ (hs10.le l) ok ⟨np, nh, nsm⟩ hnk (by omega)
 have hcl := nose_count ok okx
 have hvd := fun hex p p0 p1 h h0 h1 => nose_verd ok okx hex (p := p) p0 p1 (h := h) h0 h1
 have hsf := fun hex p p0 p1 => nose_safe ok okx hex (p := p) p0 p1
 have hLk := fun H (l : H10.le H) a b c (h : SmIn H a b c (withS s ⟨np, nh, nsm⟩)) => likeSmells_yes (.wg Tryz.prog) H (withS s ⟨np, nh, nsm⟩) _ _ _ a b c (hx10.le l) h (by simp only [withS]; omega) (by simp only [withS]; omega) (by simp only [withS, List.length_append, List.length_singleton]; omega)
 have hxn := hT8'.ne hxb
 clear hnk
 replace hs10 : Aqk _ := hs10
 replace hx10 : Aqk _ := hx10
 replace okx : Aqk _ := okx
 generalize hX : withS s ⟨np, nh, nsm⟩ = x at *
 have hxp : x.places = s.places := by rw [<- hX]; rfl
 clear hX hxb hT8'
 simp only [hxp] at hC2 hLk
 replace hC1 : Aqk _ := hC1
 replace hC2 : Aqk _ := hC2
 replace hAd : Aqk _ := hAd
 replace hLk : Aqk _ := hLk
 replace hvd : Aqk _ := hvd
 replace hsf : Aqk _ := hsf
 replace hxp : Aqk _ := hxp
 have hk1 : ¬ ((Azi s : Nat) : Int) < 1 := by omega
 have hk2 : ¬ ((Azi s : Nat) : Int) < (Azi x : Nat) := by omega
 ((try refine @unH _ (zX y4_165 ?_)); (try (refine hK _ _ ?_; clear hK K; try refine @unH _ (zQ ?_))); refine @unH _ (zA y4_165 ?_); (repeat refine inC fun hc => ?_); try refine inK fun K hK => ?_)
 refine (show FnX _ _ _ _ _ _ from hC1).runs.mono ?_
 rintro _ H11 ⟨rfl, l11⟩
 have vxb11 := l11 _ _ vxb
 ((try refine @unH _ (zX y4_165 ?_)); (try (refine hK _ _ ?_; clear hK K; try refine @unH _ (zQ ?_))); refine @unH _ (zA y4_165 ?_); (repeat refine inC fun hc => ?_); try refine inK fun K hK => ?_)
 refine ((show ∀ H, _ -> _ from hC2) H11 l11).runs.mono ?_
 rintro _ H12 ⟨rfl, l12⟩
 have l12' := Hp.le_trans l11 l12
 have vsb12 := l12' _ _ vsb10
 have vnb12 := l12' _ _ vnb10
 clear hC1 hC2 l11 l12 vxb11
 ((try refine @unH _ (zX y4_165 ?_)); (try (refine hK _ _ ?_; clear hK K; try refine @unH _ (zQ ?_))); refine @unH _ (zA y4_165 ?_); (repeat refine inC fun hc => ?_); try refine inK fun K hK => ?_)
 refine ((show ∀ H, _ -> _ from hAd) H12 l12').runs.mono ?_
 clear hAd
 rintro _ H13 ⟨hA, l13⟩
 have l13' := Hp.le_trans l12' l13
 clear l12' l13 vsb12 vnb12
 by_cases hz : Azi x = 0
 ·obtain ⟨-, rfl⟩ := hA.resolve_right (fun h => h.1 ⟨hns, hz⟩)
  clear hA
  have hz' : ((Azi x : Nat) : Int) = 0 := by omega
  have hz1 : ¬ ((Azi s : Nat) : Int) < 0 := by omega
  replace hz : Aqk _ := hz
  ((try refine @unH _ (zX y4_165 ?_)); (try (refine hK _ _ ?_; clear hK K; try refine @unH _ (zQ ?_))); refine @unH _ (zA y4_165 ?_); (repeat refine inC fun hc => ?_); try refine inK fun K hK => ?_)
  (intro yb hyb; generalize hG : Hp.set _ yb _ = H14; have lH14 := Aqc hG hyb; have vyb := Aqb hG; clear hG)
  refine hK _ _ ?_
  clear hK K
  (try refine @unH _ (zQ ?_))
  refine Bkv (fun e => e 10 = .int .i64 (Azi s : Nat) /\ e 11 = .int .i64 0 /\ e 12 = .int .i64 0 /\ e 13 = .int .i64 0 /\ e 14 = .pointer (some ⟨yb, 0, none⟩) /\ e 15 = .int .i64 9) ⟨rfl, rfl, rfl, rfl, rfl, rfl⟩ ?_
  clear vsb10 vxb vnb10 l13' lH14 hyb hLk hvd hsf hcl hz hns
  rintro e ⟨e10, e11, e12, e13, e14, e15⟩
  refine Axs (Axs (wpX_rz 15 (by rfl) ?_))
  intro K hK ops hOz
  (iterate 15 (refine @unH _ ?_; refine zR y4_165 ?_))
  (refine RZ_nil ?_; refine hK _ _ ?_; clear hK K; (try simp only [nq, ↓reduceIte, Nat.reduceEqDiff]))
  (refine @unH _ (zA y4_165 ?_); (repeat refine inC fun hc => ?_); try refine inK fun K hK => ?_)
  refine (smelled_spec H14).runs.mono ?_
  rintro _ H15 ⟨rfl, l15⟩
  ((try refine @unH _ (zX y4_165 ?_)); (try (refine hK _ _ ?_; clear hK K; try refine @unH _ (zQ ?_))); refine @unH _ (zA y4_165 ?_); (repeat refine inC fun hc => ?_); try refine inK fun K hK => ?_)
  (refine Axr ?_; (try simp only [nq, ↓reduceIte, Nat.reduceEqDiff]); rw [Aq6, Ayy Tryz.results4 (by decide)]; simp only [Axk, Nat.reduceEqDiff, ↓reduceIte])
 ·obtain ⟨-, a, b, c, rfl, hy⟩ := hA.resolve_left (fun h => hz h.1.2)
  clear hA
  obtain ⟨_, _, _, _, _, _, rfl, rfl, rfl, -⟩ := id hy.forms
  have hL2 := fun H (l : H13.le H) => (show ∀ H, _ -> ∀ a b c, _ -> _ from hLk) H (Hp.le_trans l13' l) _ _ _ (hy.le l)
  have hz1 : ¬ ((Azi x : Nat) : Int) = 0 := by omega
  clear hLk hy
  replace hL2 : Aqk _ := hL2
  ((try refine @unH _ (zX y4_165 ?_)); (try (refine hK _ _ ?_; clear hK K; try refine @unH _ (zQ ?_))); refine @unH _ (zA y4_165 ?_); (repeat refine inC fun hc => ?_); try refine inK fun K hK => ?_)
  (intro yb hyb; generalize hG : Hp.set _ yb _ = H14; have lH14 := Aqc hG hyb; have vyb := Aqb hG; clear hG)
  have l14 := Hp.le_trans l13' lH14
  have vsb14 := l14 _ _ vsb10
  have vxb14 := l14 _ _ vxb
  have hT14 := hT10.le l14
  refine hK _ _ ?_
  clear hK K
  (try refine @unH _ (zQ ?_))
  refine Bkv (fun e => e 3 = .pointer (some ⟨tb, 0, none⟩) /\ e 4 = .pointer (some ⟨sb, 0, none⟩) /\ e 9 = .pointer (some ⟨xb, 0, none⟩) /\ e 10 = .int .i64 (Azi s : Nat) /\ e 11 = .int .i64 0 /\ e 12 = .int .i64 (Azi x : Nat) /\ e 13 = .int .i64 0 /\ e 14 = .pointer (some ⟨yb, 0, none⟩) /\ e 15 = .int .i64 0) ⟨rfl, rfl, rfl, rfl, rfl, rfl, rfl, rfl, rfl⟩ ?_
  clear vnb10 hyb hcl
  rintro e ⟨e3, e4, e9, e10, e11, e12, e13, e14, e15⟩
  refine Axs (Axs (wpX_rz 15 (by rfl) ?_))
  intro K hK ops hOz
  (iterate 15 (refine @unH _ ?_; refine zR y4_165 ?_))
  (refine RZ_nil ?_; refine hK _ _ ?_; clear hK K; (try simp only [nq, ↓reduceIte, Nat.reduceEqDiff]))
  clear hOz
  refine Bkv (fun e => e 3 = .pointer (some ⟨tb, 0, none⟩) /\ e 4 = .pointer (some ⟨sb, 0, none⟩) /\ e 9 = .pointer (some ⟨xb, 0, none⟩) /\ e 12 = .int .i64 (Azi x : Nat) /\ e 14 = .pointer (some ⟨yb, 0, none⟩) /\ e 15 = .int .i64 0 /\ e 78 = .bool false) ⟨e3, e4, e9, e12, e14, e15, rfl⟩ ?_
  clear e3 e4 e9 e10 e11 e12 e13 e14 e15 e
  rintro e ⟨e3, e4, e9, e12, e14, e15, e78⟩
  have hLy := (show ∀ H, H13.le H -> _ from hL2) H14 lH14
  replace hLy : Aqk _ := hLy
  clear hL2 lH14
  (refine @unH _ (zA y4_165 ?_); (repeat refine inC fun hc => ?_); try refine inK fun K hK => ?_)
  refine (show FnX _ _ _ _ _ _ from hLy).runs.mono ?_
  rintro _ H15 ⟨rfl, l15⟩
  have vsb15 := l15 _ _ vsb14
  have vxb15 := l15 _ _ vxb14
  have hT15 := hT14.le l15
  have l15' := Hp.le_trans l14 l15
  clear hLy vsb14 vxb14 hT14 l14 l15
  ((try (refine @unH _ ?_; refine zX y4_165 ?_)); (try (refine hK _ _ ?_; clear hK K; try refine @unH _ (zQ ?_))); refine @unH _ (zA y4_165 ?_); (repeat refine inC fun hc => ?_); try refine inK fun K hK => ?_)
  refine (Bjz _ H15 tb 176 12 (by omega) hT15).runs.mono ?_
  rintro _ H16 ⟨h, h0, h12, rfl, x16, _⟩
  have vsb16 := x16.keeps vsb15 hsn
  have vxb16 := x16.keeps vxb15 hxn
  have xx := (Lex.of l15').trans x16
  have hh12 : h <= 12 := by omega
  have hs16 := (show SmIn H10 _ _ _ s from hs10).lexT hT10 xx
  have hx16 := (show SmIn H10 _ _ _ x from hx10).lexT hT10 xx
  have okx' : SmOk x := okx
  have hxp' : x.places = s.places := hxp
  have hV1 := fun H (l : H16.le H) p => Bvu H s _ _ _ (hs16.le l) ok p h
  have hV2 := fun H (l : H16.le H) p => Bvu H x _ _ _ (hx16.le l) okx' p h
  have hS1 := fun H (l : H16.le H) p => sSafe_spec H s _ _ _ (hs16.le l) ok p
  have hS2 := fun H (l : H16.le H) p => sSafe_spec H x _ _ _ (hx16.le l) okx' p
  simp only [hxp'] at hV2 hS2
  have hvd' := fun p p0 p1 => (show Azi x ≠ 0 -> ∀ p, _ from hvd) hz p p0 p1 h h0 hh12
  have hsf' := fun p p0 p1 => (show Azi x ≠ 0 -> ∀ p, _ from hsf) hz p p0 p1
  clear hs16 hx16 okx' hxp' hvd hsf hs10 hx10 hxp okx xx vsb15 vxb15 hT15 l15' x16 hz1 hk1 hk2 hc h12
  replace hV1 : Aqk _ := hV1
  replace hV2 : Aqk _ := hV2
  replace hS1 : Aqk _ := hS1
  replace hS2 : Aqk _ := hS2
  replace hvd' : Aqk _ := hvd'
  replace hsf' : Aqk _ := hsf'
  ((try refine @unH _ (zX y4_165 ?_)); (try (refine hK _ _ ?_; clear hK K; try refine @unH _ (zQ ?_))); refine @unH _ (zA y4_165 ?_); (repeat refine inC fun hc => ?_); try refine inK fun K hK => ?_)
  refine Axg (fun w a' H' => ∃ e, ∃ p : Nat, w = s.places.toNat - p /\ (p : Int) <= s.places /\ a' = act 162 e [] /\ e 4 = .pointer (some ⟨sb, 0, none⟩) /\ e 9 = .pointer (some ⟨xb, 0, none⟩) /\ e 16 = .int .i64 h /\ e 17 = .int .i64 (p : Nat) /\ H16.le H') (n := s.places.toNat) ?_ ?_
  ·exact ⟨_, 0, by omega, by omega, rfl, e4, e9, rfl, rfl, Hp.le_refl _⟩
  clear e3 e4 e9 e12 e14 e15 e78 e
  rintro w a' H17 ⟨e, p, rfl, hp, rfl, e4, e9, e16, e17, lb⟩
  have vsb := lb _ _ vsb16
  by_cases hlt : (p : Int) < s.places
  ·obtain ⟨v, w, g1, g2, g3, g4, gvw⟩ := (show ∀ p : Int, _ from hvd') p (by omega) hlt
   obtain ⟨g5, g6, gcd⟩ := (show ∀ p : Int, _ from hsf') p (by omega) hlt
   have hQ1 := fun H l => (show ∀ H, _ -> ∀ p, _ from hV1) H l p
   have hQ2 := fun H l => (show ∀ H, _ -> ∀ p, _ from hV2) H l p
   have hQ3 := fun H l => (show ∀ H, _ -> ∀ p, _ from hS1) H l p
   have hQ4 := fun H l => (show ∀ H, _ -> ∀ p, _ from hS2) H l p
   rw [g1, g2] at hQ1
   rw [g3, g4] at hQ2
   rw [g5] at hQ3
   rw [g6] at hQ4
   clear g1 g2 g3 g4 g5 g6
   generalize Bye s p = c at hQ3 gcd
   generalize Bye x p = d at hQ4 gcd
   replace hQ1 : Aqk _ := hQ1
   replace hQ2 : Aqk _ := hQ2
   replace hQ3 : Aqk _ := hQ3
   replace hQ4 : Aqk _ := hQ4
   replace gvw : Aqk _ := gvw
   (refine @unH _ (zA y4_165 ?_); (repeat refine inC fun hc => ?_); try refine inK fun K hK => ?_)
   refine ((show ∀ H, _ -> _ from hQ1) H17 lb).runs.mono ?_
   rintro _ H18 ⟨rfl, l18⟩
   have lb18 := Hp.le_trans lb l18
   have vxb18 := lb18 _ _ vxb16
   clear hQ1 lb l18 vsb
   ((try refine @unH _ (zX y4_165 ?_)); (try (refine hK _ _ ?_; clear hK K; try refine @unH _ (zQ ?_))); refine @unH _ (zA y4_165 ?_); (repeat refine inC fun hc => ?_); try refine inK fun K hK => ?_)
   refine ((show ∀ H, _ -> _ from hQ2) H18 lb18).runs.mono ?_
   rintro _ H19 ⟨rfl, l19⟩
   have lb19 := Hp.le_trans lb18 l19
   have vsb19 := lb19 _ _ vsb16
   clear hQ2 lb18 l19 vxb18
   ((try refine @unH _ (zX y4_165 ?_)); (try (refine hK _ _ ?_; clear hK K; try refine @unH _ (zQ ?_))); refine @unH _ (zA y4_165 ?_); (repeat refine inC fun hc => ?_); try refine inK fun K hK => ?_)
   refine ((show ∀ H, _ -> _ from hQ3) H19 lb19).runs.mono ?_
   rintro _ H20 ⟨rfl, l20⟩
   have lb20 := Hp.le_trans lb19 l20
   have vxb20 := lb20 _ _ vxb16
   clear hQ3 lb19 l20 vsb19
   ((try refine @unH _ (zX y4_165 ?_)); (try (refine hK _ _ ?_; clear hK K; try refine @unH _ (zQ ?_))); refine @unH _ (zA y4_165 ?_); (repeat refine inC fun hc => ?_); try refine inK fun K hK => ?_)
   refine ((show ∀ H, _ -> _ from hQ4) H20 lb20).runs.mono ?_
   rintro _ H21 ⟨rfl, l21⟩
   have lb21 := Hp.le_trans lb20 l21
   clear hQ4 lb20 l21 vxb20
   rcases (show v = 3 ∨ v ≠ 3 /\ w = v from gvw) with rfl | ⟨hv3, rfl⟩
   all_goals
    clear gvw
    ((try refine @unH _ (zX y4_165 ?_)); (try (refine hK _ _ ?_; clear hK K; try refine @unH _ (zQ ?_))); refine @unH _ (zA y4_165 ?_); (repeat refine inC fun hc => ?_); try refine inK fun K hK => ?_)
    exact ⟨s.places.toNat - (p + 1), by omega, _, p + 1, rfl, by omega, rfl, e4, e9, e16, rfl, lb21⟩
  ·(refine @unH _ (zA y4_165 ?_); (repeat refine inC fun hc => ?_); try refine inK fun K hK => ?_)
   refine (smelled_spec H17).runs.mono ?_
   rintro _ H18 ⟨rfl, l18⟩
   ((try refine @unH _ (zX y4_165 ?_)); (try (refine hK _ _ ?_; clear hK K; try refine @unH _ (zQ ?_))); refine @unH _ (zA y4_165 ?_); (repeat refine inC fun hc => ?_); try refine inK fun K hK => ?_)
   (refine Axr ?_; (try simp only [nq, ↓reduceIte, Nat.reduceEqDiff]); rw [Aq6, Ayy Tryz.results4 (by decide)]; simp only [Axk, Nat.reduceEqDiff, ↓reduceIte])
end Go.Proofs.YtnfnaehonkbknaaGreatDoor
end
section
namespace Go.Proofs.YtnfnaehonkbknaaGreatDoor
open Go Go.X Go.ChangeShapes Go.WideShapes Go.RowKit
set_option maxRecDepth 100000 in
theorem law_lifted (os : Os) (started : os.Started) (H : Type) (enc : TypeId × Value -> H) :
  ReturnsInLeavingWide {} Tryz.checked os 4 .any (fun w args => (Rows.smellNoseSpec.pre enc Tryz.prog Tryz.f4 [] false w args /\ laidMetH Tryz.prog [("errors.errorType", Rows.laid_errors_errorType)] w) /\ sizedMet enc Tryz.prog Tryz.f4 (OpenSpec.ofChange Rows.smellNoseSpec) false w args)
   (Rows.smellNoseSpec.post enc Tryz.prog Tryz.f4 false true false false) := by
 refine leaving_of_change_and (C := Tryz.checked) (X := fun w _ => laidMetH Tryz.prog [("errors.errorType", Rows.laid_errors_errorType)] w) (fun _ _ _ hh h => h.of_heap hh) ownK started Tryz.func4
  (ChangeSpec.witness_at (enc := enc) (C := Tryz.checked) (os := os) (X := fun w _ => laidMetH Tryz.prog [("errors.errorType", Rows.laid_errors_errorType)] w) false (laidWorld os) #[.slice none 0 0] 8 rfl (by kernel_rfl) (by kernel_rfl) (by kernel_rfl) (by kernel_rfl) (by kernel_rfl) (laidWorld_met os _)) ?_
 intro W base args ds gs before hval0 hW hL
 have hval : ∀ (j : Nat) t v, Tryz.f4.params[j]? = some t -> args[j]? = some v -> Value.okWide Tryz.prog W .any base t v := hval0
 have hW' := hW
 obtain ⟨p, q, hA0, hV0, rfl, hfz, hnd⟩ := hW
 have hA : DataW.TrodAll enc Tryz.prog W 0 (fun _ => true) true Tryz.f4.params.toList args.toList ds p := hA0
 have hV : DataW.TrodVars enc Tryz.prog W (fun _ => true) [] gs q := hV0
 rw [Tryz.params4] at hA hval
 obtain ⟨v0, d0, rfl, rfl, h0⟩ := trodAll_one hA
 obtain ⟨a0, len, cap, rfl⟩ := okWide_slice Tryz.underlying22 (hval 0 22 v0 rfl rfl)
 have h0k := h0
 obtain ⟨fuel, hf⟩ := h0
 obtain ⟨rfl, rfl⟩ : gs = [] /\ q = [] := by
  cases gs with
  | nil => exact ⟨rfl, hV⟩
  | cons g r => exact absurd hV (by intro h; cases h)
 have e1 : Rows.smellNoseSpec.fn H ([d0] ++ []) = { results := [.lit (.bool true)], args := [d0] } := by simp [Rows.smellNoseSpec]
 have hcells : ∀ i : Nat, i < len -> ∃ sb so c e fr x, a0 = some ⟨sb, so, none⟩ /\ Bqa W sb = some (false, .cells c e fr) /\ c[so + i]? = some (.int .i64 x) := by
  rcases open_ints Tryz.underlying22 Tryz.underlying3 cellsK hf with ⟨hcs, _⟩ | ⟨a, len', cap', zs, hcs, _, hl, hm, hz, hx, hcell, hwz⟩
  ·simp [Value.cells] at hcs
   intro i hi
   omega
  ·simp [Value.cells] at hcs
   obtain ⟨rfl, rfl, rfl⟩ := hcs
   intro i hi
   simp only [if_true] at hz
   have hc := hcell i (by omega)
   obtain ⟨b, off, spot⟩ := a
   have hspot : spot = none := by simpa [Addr.add] using World.cell?_spot (hcell 0 (by omega))
   subst hspot
   rw [add_plain] at hc
   unfold World.cell? at hc
   split at hc
   ·rename_i c e fr hb
    exact ⟨b, off, c, e, fr, _, rfl, by simp [Bqa, hb], by simpa using hc⟩
   ·cases hc
 have hlt : ∀ x ∈ p, x.block < W.heap.size := fun x hx => by simpa using hW'.lt x (by simpa using hx)
 obtain ⟨N, last, o, w', t', r1, r2, r3, v, hv, ⟨rfl, hB⟩, r4⟩ := (lsnose_spec (Bqa W) a0 len cap hcells).goodW Tryz.func4 (results_tmp Tryz.results4 _) (by kernel_rfl)
 refine ⟨N, last, o, w', t', r1, r2, r3, _, hv, ?_, r4⟩
 have hb := hB.below
 refine ⟨_, _, _, [], p, [], hW', ?_, ?_, ?_, hB.kept _, fun h => by cases h⟩
 ·rw [e1]; exact trodAll_mk1 (shut_bool Tryz.underlying4 true)
 ·rw [e1]
  have t := trodAll_mk1 (DataW.Trod.of_heap (w := { w' with tape := W.tape }) (w' := w') rfl (Below.trod laidOutK (by kernel_rfl) (of_decide_eq_true (by kernel_rfl)) h0k hb hlt))
  exact t
 ·rw [e1]; rfl
end Go.Proofs.YtnfnaehonkbknaaGreatDoor
end
section
namespace Go.Proofs.YtnfnaehonkbknaaGreatDoor
open Go Go.X Go.ChangeShapes Go.WideShapes Go.RowKit
theorem jEnter : Program.mayEnter Tryz.pinned.checked.prog = true := factEnter
theorem jLift : (Rows.smellNoseRow.lifted == Program.liftsFinal Tryz.pinned.checked.prog) = true := by rw [show Program.liftsFinal Tryz.pinned.checked.prog = Rows.smellNoseRow.lifted from factLift]; exact beq_self_eq_true _
theorem jMake : (Program.make Tryz.pinned.checked.prog == some Rows.smellNoseRow.make) = true := by rw [show Program.make Tryz.pinned.checked.prog = some Rows.smellNoseRow.make from factMake]; exact beq_self_eq_true _
set_option maxRecDepth 100000 in
theorem jf : joinedFacts Tryz.pinned.checked.prog 4 Tryz.f4 Rows.smellNoseSpec Rows.smellNoseRow = true := by
 unfold joinedFacts
 simp only [jEnter, jLift, jMake, Bool.and_true]
 kernel_rfl
set_option maxRecDepth 100000 in
theorem smellNose_said : Rows.SmellNoseSaid :=
 OpenClaim.holds_of_wide_leaving 4 Tryz.f4 rfl rfl rfl rfl rfl rfl rfl ⟨rfl, rfl, rfl, rfl, rfl⟩ rfl rfl rfl rfl rfl (by kernel_rfl) Tryz.func4 jf
  (of_decide_eq_true (by kernel_rfl)) (by unfold Func.isWrapper; rw [if_neg (of_decide_eq_false (by kernel_rfl))]; exact ⟨rfl, rfl⟩)
  (fun os started H enc _ => law_lifted os started H enc)
end Go.Proofs.YtnfnaehonkbknaaGreatDoor
end
