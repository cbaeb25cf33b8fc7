/- Functions of the program as typed functions, and that the machine runs as they say (part 2). No further condition. -/
import Derived.Test.YtkmhlpopclahcaaK4
import Derived.Test.YtkmhlpopclahcaaProg
import Derived.Test.YtkmhlpopclahcaaChecked
import Derived.KernelRfl
import Derived.Test.YtkmhlpopclahcaaG1
set_option linter.unusedVariables false
set_option linter.unusedSimpArgs false
namespace Go.Zq
open Go.Proofs
def zk5 : AC := (.seq (.reg [] [jm 3 0, jx 4 (.callT (jf 63) [.t 3, jn 8] [0] []), jz (.store (.ag [.s, .p]) (.t 2) (.t 4))] []) .ret)
def A44 : AC := (.seq (.reg [.clr [2]] [jx 2 (.alloc (.agg [i0, .sl .nl (.ag [.s, .s]) 0 []]))] []) zk5)
def zqA : List An := [⟨0, [.clr [2]], [], [], []⟩, ⟨1, [], [], [2000000], []⟩]
theorem c44 : cC Try.prog Try.f44.ntmps zqA (Try.f44.body.getD .skip) = some A44 := by kernel_rfl
structure H44 (D : Den) (σ : Sig) (F : Nat) : Prop where
 c63 : C63 (D 63) F
 g63 : σ 63 = some (uf, false)
abbrev R44 (r : (GR × CU)) : (Nat → V) → Prop := RT Try.prog [.cell 2 26] (Enc.enc (r.1 : GR)) [cuV zA r.2]
section
variable {D : Den} {σ : Sig} {F : Nat} {r : (GR × CU)}
def xF (F : Nat) (x_1 : CC) : Option (GR × CU) :=
 (xq F (Cu.mk x_1.v) 8).bind fun r_2 =>
 some (r_2.1, r_2.2)
theorem t44 (H : H44 D σ F) (x_1 : CC) (s : Nat → V) (hs : zl [(0, bC x_1.v)] s) (h : xF F x_1 = some r) : Run D σ (R44 r) (.run A44 []) s := by
 unfold xF at h
 have h0 := hs
 refine .seq (zt (zR ?_))
 refine ez [(0, _), (2, _)] ⟨za h0 rfl (zh rfl vz), zb rfl⟩ ?_
 rintro s ⟨h0, h2⟩
 refine xp h2 (gq (.nsq (.seq (rg (gm h0 fun h3 => ?_)))))
 obtain ⟨r_2, E_r_2, h⟩ := bind_some h
 refine vw (r := zA) (b := 0) (x := x_1.v) (x' := r_2.2) (vs := [Enc.enc (8 : Int)]) (res := Enc.enc (r_2.1 : GR)) h0 (by exact (zK (v := cuV zA x_1.v) h3 rfl (zK (v := Enc.enc (8 : Int)) rfl rfl yA))) (z9 te yn) fm1 (H.c63 _ _ _ E_r_2) H.g63 te rfl (fun s_2 hb_2 ha_2 => z7 (gV r_2.1) (zy (show s_2 2 = (bZ 2) from ha_2 2 (bZ 2) _ rfl rfl (zh rfl (mIx rfl))) rfl) (zy rfl rfl) (xR (by first | rfl | simp [V.toks, V.tokss, Enc.toks_enc, z4])) ?_)
 refine gz [(0, bC r_2.2), (2, bG 2 r_2.1)] ⟨zc (show s_2 0 = (bC r_2.2) from hb_2 0 h0) (zD rfl rfl Wx), zc (show s_2 2 = (bZ 2) from ha_2 2 (bZ 2) _ rfl rfl (zh rfl (mIx rfl))) rfl⟩ ?_
 rintro s ⟨h0, h2⟩
 refine .nsq (.ret ?_)
 have hr := Option.some.inj h
 subst hr
 exact rt1 (t := 0) (wI h2 (by kernel_rfl)) h0
end
def e44 (F : Nat) : Ent := ent 44 (fun (x : (CC × Unit)) => xF F x.1) (fun (r : (GR × CU)) => (.tup [Enc.enc (r.1 : GR), .tup [cuV zA r.2]])) uf false []
abbrev C44 (D : List V → Option V) (F : Nat) : Prop := ∀ (x0 : CC) r, xF F x0 = some r → D [Arg.arg x0] = some (.tup [Enc.enc (r.1 : GR), .tup [cuV zA r.2]])
theorem p44 {F : Nat} : C44 (e44 F).den F := fun x0 _ h => zJ (x0, ()) h
theorem o44 {D : Den} {σ : Sig} {F : Nat} (hF : zu Try.prog D σ) (H : H44 D σ F) : (e44 F).Ok Try.prog := by
 refine yd (f := 44) (show unk 44 = 44 from rfl) (fun args r h => ?_) ⟨Try.f44, Try.func44, rfl, rfl⟩
 obtain ⟨⟨x0, _⟩, y, rfl, hy, rfl⟩ := zH h
 exact x8 hF (by kernel_rfl) Try.func44 rfl c44 rfl (show 1 ≤ Try.f44.ntmps by decide) (by decide) (t44 H x0 _ rfl hy)
def zlz : AC := (.cond (.t 13) .skip (.exit 0))
def zkN : AC := (.reg [.clr [21, 25, 27, 28, 32]] [jy 21 (.lit i0 0 []), jm 22 5, jm 23 7, jv 24 (.slice (.t 22) none (some (.t 23)) 1), jy 25 (.appS .s (.t 21) (.t 24)), jm 26 6, jx 27 (.lit i0 1 [(0, 0, .t 26)]), jy 28 (.appS .s (.t 25) (.t 27)), jm 29 5, jm 30 7, jv 31 (.slice (.t 29) (some (.t 30)) none 1), jx 32 (.appS .s (.t 28) (.t 31)), jm 5 32] [.home 32 5])
def zlS : AC := (.reg [] [jm 14 6, jv 15 (.bin .add (.t 14) (jn 1)), jm 6 15] [])
def zox : AC := (.seq (.block 1 (.seq (.reg [] [jm 16 0, jm 17 5, jv 18 (.len (.t 17)), jv 19 (.bin .add (.t 18) (jn 1)), jx 20 (.callT (jf 65) [.t 16, .t 19] [0] []), jm 7 20] []) zkN)) zlS)
def zf6 : AC := (.seq (.seq (.reg [] [jm 9 6, jv 10 (.fld (.t 3) 0 0), jv 11 (.load .s (.t 10)), jx 12 (.call (jf 64) [.t 11, jn 8]), jv 13 (.bin .lss (.t 9) (.t 12))] []) zlz) zox)
def zmf : AC := (.cond (.t 34) (.reg [.clr [37, 39, 40]] [jm 35 5, jm 36 0, jx 37 (.litS i0 3 [(0, 0, jn 0), (1, 1, jn (-1)), (2, 2, jn 8)]), jx 38 (.callT (jf 67) [.t 36, .t 37] [0] []), jx 39 (.lit i0 1 [(0, 0, .t 38)]), jx 40 (.app .s (.t 35) (.t 39)), jm 5 40] [.home 40 5]) .skip)
def zk1 : AC := (.seq (.reg [] [jm 41 5, jm 4 41] [.home 5 4, .frz 4]) .ret)
def zir : AC := (.seq (.seq (.reg [] [jm 33 0, jx 34 (.callT (jf 66) [.t 33, jn 24] [0] [])] []) zmf) zk1)
def zi0 : AC := (.block 0 (.loop zf6))
def ziY : AC := (.seq (.seq (.reg [] [jv 6 (.mov (jn 0))] []) zi0) zir)
def zl3 : AC := (.seq (.reg [.clr [8]] [jx 8 (.lit i0 0 []), jm 5 8] [.home 8 5]) ziY)
def A45 : AC := (.seq (.reg [.clr [3]] [jx 3 (.box (.t 1)), jv 4 (.mov (.k (.sl .nl .s 0 [])))] []) zl3)
def zqE : List An := [⟨0, [.clr [3]], [], [], []⟩, ⟨1, [.clr [8]], [], [], [.home 8 5]⟩, ⟨5, [], [], [5000000], []⟩, ⟨6, [.clr [21, 25, 27, 28, 32]], [0, 4, 7], [4, 7, 11], [.home 32 5]⟩, ⟨7, [], [], [2000000], []⟩, ⟨8, [.clr [37, 39, 40]], [], [4000000, 6002], [.home 40 5]⟩, ⟨9, [], [], [], [.home 5 4, .frz 4]⟩]
theorem c45 : cC Try.prog Try.f45.ntmps zqE (Try.f45.body.getD .skip) = some A45 := by kernel_rfl
structure H45 (D : Den) (σ : Sig) (F : Nat) : Prop where
 c64 : C64 (D 64) F
 g64 : σ 64 = some (0, false)
 c65 : C65 (D 65) F
 g65 : σ 65 = some (uf, false)
 c66 : C66 (D 66) F
 g66 : σ 66 = some (uf, false)
 c67 : C67 (D 67) F
 g67 : σ 67 = some (uf, false)
abbrev R45 (r : (LI × CU)) : (Nat → V) → Prop := RT Try.prog [.tmp 4] (eL r.1) [cuV zA r.2]
section
variable {D : Den} {σ : Sig} {F : Nat} {r : (LI × CU)}
def y6 (F : Nat) (x_2 : GR)  : Nat → LB → Int → Int → LI → Int → Option (LI × CU)
 | 0, _, _, _, _, _ => none
 | k + 1, x_10, x_11, x_12, x_13, x_14 =>
   (uI F x_2.1 8).bind fun r_22 =>
   bif decide (x_14 < r_22) then
    (ye F (cu x_10 x_11 x_12) (w64 ((x_13.length : Int) + 1))).bind fun r_23 =>
    (sub x_13 0 r_23.1).bind fun sub_24 =>
    (wM [] sub_24).bind fun ap_25 =>
    (wM ap_25 [x_14]).bind fun ap_26 =>
    (sub x_13 r_23.1 (x_13.length : Int)).bind fun sub_27 =>
    (wM ap_26 sub_27).bind fun ap_28 =>
    (y6 F x_2 k) r_23.2.a r_23.2.b r_23.2.c.v ap_28 (w64 (x_14 + 1))
   else
    (xN F (cu x_10 x_11 x_12) 24).bind fun r_29 =>
    bif r_29.1 then
     (yJ F (Cu.mk r_29.2) [0, (-1), 8]).bind fun r_30 =>
     (wM x_13 [r_30.1]).bind fun ap_31 =>
     some (ap_31, r_30.2)
    else
     some (x_13, r_29.2)
theorem zek (H : H45 D σ F) (x_2 : GR)  : ∀ (k : Nat) (x_10 : LB) (x_11 : Int) (x_12 : Int) (x_13 : LI) (x_14 : Int) (s : Nat → V), zl [(0, .ref (.bx zA) 0 [] (.agg [eB x_10, ji x_11, .int .u64 x_12])), (3, bG 3 x_2), (4, nI), (5, oI 5 [] (.of x_13)), (6, ji x_14)] s → y6 F x_2 k x_10 x_11 x_12 x_13 x_14 = some r → Run D σ (R45 r) (.run zf6 [.lp zf6, .bk 0, .sq zir]) s := by
 intro k
 induction k with
 | zero => intro x_10 x_11 x_12 x_13 x_14 s _ h; exact nm h
 | succ k ih =>
   intro x_10 x_11 x_12 x_13 x_14 s hs h
   rw [y6] at h
   obtain ⟨h0, h3, h4, h5, h6⟩ := hs
   refine .seq (.seq (rg (gm h6 fun h9 => g1 3 (.ref (.bx 3) 0 [0] (ji x_2.1)) h3 fun h10 => g1 10 (ji x_2.1) h10 fun h11 => ?_)))
   obtain ⟨r_22, E_r_22, h⟩ := bind_some h
   refine zB (m := 0) (al := false) (r := Enc.enc (r_22 : Int)) [Enc.enc (x_2.1 : Int), Enc.enc (8 : Int)] (zd (v := ji x_2.1) h11 rfl rfl (zd (v := ji 8) rfl rfl rfl zw)) (H.c64 _ _ _ E_r_22) H.g64 rfl rfl rfl rfl (g2 9 12 (jb (decide (x_14 < r_22))) h9 (rf (ji r_22)) fun h13 => gq (.nsq (zi (t := decide (x_14 < r_22)) h13 h (fun h => ?_) (fun h => ?_))))
   · refine .skip (.nsq (.seq (.block (.seq (rg (gm h0 fun h16 => gm h5 fun h17 => gv (ji (x_13.length : Int)) (Kg (o := .of x_13) h17) fun h18 => g1 18 (ji (w64 ((x_13.length : Int) + 1))) h18 fun h19 => ?_))))))
     obtain ⟨r_23, E_r_23, h⟩ := bind_some h
     refine vw (r := zA) (b := 0) (x := ((S3.mk x_10 x_11 (Kd.mk x_12 : Kd .u64)) : CU)) (x' := r_23.2) (vs := [Enc.enc (w64 ((x_13.length : Int) + 1) : Int)]) (res := Enc.enc (r_23.1 : Int)) h0 (by exact (zK (v := cuV zA ((S3.mk x_10 x_11 (Kd.mk x_12 : Kd .u64)) : CU)) h16 rfl (zK (v := Enc.enc (w64 ((x_13.length : Int) + 1) : Int)) h19 rfl yA))) (z9 te yn) fm1 (H.c65 _ _ _ E_r_23) H.g65 te rfl (fun s_10 hb_10 ha_10 => gm (rf (ji r_23.1)) fun h7 => ?_)
     refine gz [(0, _), (3, bG 3 x_2), (4, nI), (5, oI 5 [] (.of x_13)), (6, ji x_14), (7, _)] ⟨(show s_10 0 = (bC r_23.2) from hb_10 0 h0), (show s_10 3 = (bG 3 x_2) from ha_10 3 _ _ h3 rfl (zh rfl mIE)), (show s_10 4 = nI from ha_10 4 _ _ h4 rfl rfl), (show s_10 5 = (oI 5 [] (.of x_13)) from ha_10 5 _ _ h5 rfl (zm (r := 5) (p := []) rfl rfl)), (show s_10 6 = (ji x_14) from ha_10 6 _ _ h6 rfl mi), h7⟩ ?_
     rintro s ⟨h0, h3, h4, h5, h6, h7⟩
     refine .nsq (zt (zR ?_))
     refine ez [(0, _), (3, _), (4, _), (5, _), (6, _), (7, _), (21, _), (25, _), (27, _), (28, _), (32, _)] ⟨za h0 rfl (zh rfl vz), za h3 rfl (zh rfl mIE), za h4 rfl rfl, za h5 rfl (zm (r := 5) (p := []) rfl rfl), za h6 rfl mi, za h7 rfl mi, zb rfl, zb rfl, zb rfl, zb rfl, zb rfl⟩ ?_
     rintro s ⟨h0, h3, h4, h5, h6, h7, h21, h25, h27, h28, h32⟩
     refine Kc [] [] trivial rfl rfl h21 (gm h5 fun h22 => gm h7 fun h23 => ?_)
     obtain ⟨sub_24, E_sub_24, h⟩ := bind_some h
     refine gv (.sl (.at 5 []) (Enc.shp Int) (Int.toNat 0) ((sub_24 : LI).map Enc.enc)) (WN (xs := x_13) h22 (vM) (v5 h23) E_sub_24 rfl) fun h24 => ?_
     obtain ⟨ap_25, E_ap_25, h⟩ := bind_some h
     refine Xz (p := []) (xs := []) (ys := (sub_24 : LI)) (t2 := .at 5 []) (lo2 := Int.toNat 0) rfl h24 rfl h25 rfl E_ap_25 (gm h6 fun h26 => xf [(26, ji x_14)] [Enc.enc (x_14 : Int)] h26 rfl rfl h27 ?_)
     obtain ⟨ap_26, E_ap_26, h⟩ := bind_some h
     refine Xz (p := []) (xs := ap_25) (ys := ([x_14] : LI)) (t2 := .at 27 []) (lo2 := 0) rfl rfl rfl h28 rfl E_ap_26 (gm h5 fun h29 => gm h7 fun h30 => ?_)
     obtain ⟨sub_27, E_sub_27, h⟩ := bind_some h
     refine gv (.sl (.at 5 []) (Enc.shp Int) (Int.toNat r_23.1) ((sub_27 : LI).map Enc.enc)) (WN (xs := x_13) h29 (v5 h30) (vM) E_sub_27 rfl) fun h31 => ?_
     obtain ⟨ap_28, E_ap_28, h⟩ := bind_some h
     refine Xz (p := []) (xs := ap_26) (ys := (sub_27 : LI)) (t2 := .at 5 []) (lo2 := Int.toNat r_23.1) rfl h31 rfl h32 rfl E_ap_28 (gm (rf (oI 32 [] (.of ap_28))) fun h5 => yE (yq (r := 32) (x := 5) (v := _) h5 rfl (fun s_12 hg_12 => ?_)))
     refine ez [(0, bC r_23.2), (3, bG 3 x_2), (4, nI), (5, oI 5 [] (.of ap_28)), (6, ji x_14)] ⟨hg_12 0 _ _ h0 (zh rfl vz), hg_12 3 _ _ h3 (zh rfl mIE), hg_12 4 _ _ h4 rfl, hg_12 5 _ _ h5 (zm (r := 32) (p := []) rfl rfl), hg_12 6 _ _ h6 mi⟩ ?_
     rintro s ⟨h0, h3, h4, h5, h6⟩
     refine .nbk (.nsq (rg (gm h6 fun h14 => g1 14 (ji (w64 (x_14 + 1))) h14 fun h15 => gm h15 fun h6 => gq (.nlp ?_))))
     exact ih r_23.2.a r_23.2.b r_23.2.c.v ap_28 (w64 (x_14 + 1)) _ ⟨h0, h3, h4, h5, h6⟩ h
   refine .exit (.esq (.elp (.ebk (.nsq (.seq (.seq (rg (gm h0 fun h33 => ?_))))))))
   obtain ⟨r_29, E_r_29, h⟩ := bind_some h
   refine vw (r := zA) (b := 0) (x := ((S3.mk x_10 x_11 (Kd.mk x_12 : Kd .u64)) : CU)) (x' := r_29.2) (vs := [Enc.enc (24 : Int)]) (res := Enc.enc (r_29.1 : Bool)) h0 (by exact (zK (v := cuV zA ((S3.mk x_10 x_11 (Kd.mk x_12 : Kd .u64)) : CU)) h33 rfl (zK (v := Enc.enc (24 : Int)) rfl rfl yA))) (z9 te yn) fm1 (H.c66 _ _ _ E_r_29) H.g66 te rfl (fun s_13 hb_13 ha_13 => gz [(0, _), (4, nI), (5, oI 5 [] (.of x_13)), (34, jb r_29.1)] ⟨(show s_13 0 = (bC r_29.2) from hb_13 0 h0), (show s_13 4 = nI from ha_13 4 _ _ h4 rfl rfl), (show s_13 5 = (oI 5 [] (.of x_13)) from ha_13 5 _ _ h5 rfl (zm (r := 5) (p := []) rfl rfl)), rfl⟩ ?_)
   rintro s ⟨h0, h4, h5, h34⟩
   refine .nsq (zi (t := r_29.1) h34 h (fun h => ?_) (fun h => ?_))
   · refine zt (zR ?_)
     refine ez [(0, _), (4, _), (5, _), (37, _), (39, _), (40, _)] ⟨za h0 rfl (zh rfl vz), za h4 rfl rfl, za h5 rfl (zm (r := 5) (p := []) rfl rfl), zb rfl, zb rfl, zb rfl⟩ ?_
     rintro s ⟨h0, h4, h5, h37, h39, h40⟩
     refine gm h5 fun h35 => gm h0 fun h36 => NW [] ([0, (-1), 8] : LI) trivial rfl rfl rfl h37 (fun s_15 hd_15 hl_15 => ?_)
     obtain ⟨r_30, E_r_30, h⟩ := bind_some h
     refine vw (r := zA) (b := 0) (x := r_29.2) (x' := r_30.2) (vs := [Enc.enc ([0, (-1), 8] : LI)]) (res := Enc.enc (r_30.1 : Int)) (show s_15 0 = (bC r_29.2) from hl_15 0 _ _ (by decide) h0 (zS rfl YW rfl)) (by exact (zK (v := cuV zA r_29.2) (show s_15 36 = (bC r_29.2) from hl_15 36 _ _ (by decide) h36 (zS rfl YW rfl)) rfl (zK (v := Enc.enc ([0, (-1), 8] : LI)) (show s_15 37 = (eL [0, (-1), 8]) from hd_15) rfl yA))) (z9 te yn) fm1 (H.c67 _ _ _ E_r_30) H.g67 te rfl (fun s_16 hb_16 ha_16 => ?_)
     refine xf [(38, ji r_30.1)] [Enc.enc (r_30.1 : Int)] rfl rfl rfl (show s_16 39 = .gone from ha_16 39 .gone _ (show s_15 39 = .gone from hl_15 39 _ _ (by decide) h39 rfl) rfl rfl) ?_
     obtain ⟨ap_31, E_ap_31, h⟩ := bind_some h
     refine XZ (q := 5) (p := []) (o := .of (x_13 : LI)) (ys := ([r_30.1] : LI)) (t2 := .at 39 []) (lo2 := 0) (show s_16 35 = (oI 5 [] (.of x_13)) from ha_16 35 (oI 5 [] (.of x_13)) _ (show s_15 35 = (oI 5 [] (.of x_13)) from hl_15 35 _ _ (by decide) h35 (XB rfl rfl)) rfl (zm (r := 5) (p := []) rfl rfl)) rfl rfl (show s_16 40 = .gone from ha_16 40 .gone _ (show s_15 40 = .gone from hl_15 40 _ _ (by decide) h40 rfl) rfl rfl) (ZV (o := .of (x_13 : LI)) E_ap_31 trivial) (fun s_17 ha_17 => gm (rf (oI 40 [] (.of ap_31))) fun h5 => yE (yq (r := 40) (x := 5) (v := _) h5 rfl (fun s_18 hg_18 => ?_)))
     refine ez [(0, bC r_30.2), (4, nI), (5, oI 5 [] (.of ap_31))] ⟨hg_18 0 _ _ (show s_17 0 = (bC r_30.2) from zU ha_17 (show s_16 0 = (bC r_30.2) from hb_16 0 (show s_15 0 = (bC r_29.2) from hl_15 0 _ _ (by decide) h0 (zS rfl YW rfl))) (zh rfl vz)) (zh rfl vz), hg_18 4 _ nI (show s_17 4 = nI from zU ha_17 (show s_16 4 = nI from ha_16 4 nI _ (show s_15 4 = nI from hl_15 4 _ _ (by decide) h4 rfl) rfl rfl) rfl) rfl, hg_18 5 _ _ h5 (zm (r := 40) (p := []) rfl rfl)⟩ ?_
     rintro s ⟨h0, h4, h5⟩
     refine .nsq (.seq (rg (gm h5 fun h41 => gm h41 fun h4 => yE (yq (r := 5) (x := 4) (v := _) h4 rfl (fun s_19 hg_19 => X1 (x := 4) (v := oI 4 [] (.of ap_31)) [.at 4 []] (by exact (hg_19 4 _ _ h4 (zm (r := 5) (p := []) rfl rfl))) z5 (fun s_20 hg_20 => ?_))))))
     refine ez [(0, bC r_30.2), (4, eL ap_31)] ⟨hg_20 0 (bC r_30.2) (bC r_30.2) (hg_19 0 _ _ h0 (zh rfl vz)) (zS rfl YW rfl), hg_20 4 (oI 4 [] (.of ap_31)) (eL ap_31) (hg_19 4 _ _ h4 (zm (r := 5) (p := []) rfl rfl)) Zf⟩ ?_
     rintro s ⟨h0, h4⟩
     refine .nsq (.ret ?_)
     have hr := Option.some.inj h
     subst hr
     exact rt1 (t := 0) (zf h4) h0
   refine .skip (.nsq (.seq (rg (gm h5 fun h41 => gm h41 fun h4 => yE (yq (r := 5) (x := 4) (v := _) h4 rfl (fun s_21 hg_21 => X1 (x := 4) (v := oI 4 [] (.of x_13)) [.at 4 []] (by exact (hg_21 4 _ _ h4 (zm (r := 5) (p := []) rfl rfl))) z5 (fun s_22 hg_22 => ?_)))))))
   refine ez [(0, bC r_29.2), (4, eL x_13)] ⟨hg_22 0 (bC r_29.2) (bC r_29.2) (hg_21 0 _ _ h0 (zh rfl vz)) (zS rfl YW rfl), hg_22 4 (oI 4 [] (.of x_13)) (eL x_13) (hg_21 4 _ _ h4 (zm (r := 5) (p := []) rfl rfl)) Zf⟩ ?_
   rintro s ⟨h0, h4⟩
   refine .nsq (.ret ?_)
   have hr := Option.some.inj h
   subst hr
   exact rt1 (t := 0) (zf h4) h0
def wN (F : Nat) (x_1 : CC) (x_2 : GR) : Option (LI × CU) :=
 y6 F x_2 F x_1.v.a x_1.v.b x_1.v.c.v [] 0
theorem t45 (H : H45 D σ F) (x_1 : CC) (x_2 : GR) (s : Nat → V) (hs : zl [(0, bC x_1.v), (1, gV x_2)] s) (h : wN F x_1 x_2 = some r) : Run D σ (R45 r) (.run A45 []) s := by
 unfold wN at h
 obtain ⟨h0, h1⟩ := hs
 refine .seq (zt (zR ?_))
 refine ez [(0, _), (1, _), (3, _)] ⟨za h0 rfl (zh rfl vz), za h1 rfl mIE, zb rfl⟩ ?_
 rintro s ⟨h0, h1, h3⟩
 refine xB (gV x_2) (zy h1 rfl) h3 rfl (g0 nI fun h4 => gq (.nsq (.seq (zt (zR ?_)))))
 refine ez [(0, _), (3, _), (4, _), (8, _)] ⟨za h0 rfl (zh rfl vz), za rfl rfl (zh rfl mIE), za h4 rfl rfl, zb rfl⟩ ?_
 rintro s ⟨h0, h3, h4, h8⟩
 refine xf [] [] trivial rfl rfl h8 (gm (rf (oI 8 [] (.of []))) fun h5 => yE (yq (r := 8) (x := 5) (v := _) h5 rfl (fun s_3 hg_3 => ?_)))
 refine ez [(0, bC x_1.v), (3, bG 3 x_2), (4, nI), (5, oI 5 [] (.of []))] ⟨hg_3 0 _ _ h0 (zh rfl vz), hg_3 3 _ _ h3 (zh rfl mIE), hg_3 4 _ _ h4 rfl, hg_3 5 _ _ h5 (zm (r := 8) (p := []) rfl rfl)⟩ ?_
 rintro s ⟨h0, h3, h4, h5⟩
 refine .nsq (.seq (.seq (rg (g0 (ji 0) fun h6 => gq (.nsq (.block (.loop ?_)))))))
 exact zek H x_2 F x_1.v.a x_1.v.b x_1.v.c.v [] 0 _ ⟨h0, h3, h4, h5, h6⟩ h
end
def e45 (F : Nat) : Ent := ent 45 (fun (x : (CC × GR × Unit)) => wN F x.1 x.2.1) (fun (r : (LI × CU)) => (.tup [eL r.1, .tup [cuV zA r.2]])) uf false []
abbrev C45 (D : List V → Option V) (F : Nat) : Prop := ∀ (x0 : CC) (x1 : GR) r, wN F x0 x1 = some r → D [Arg.arg x0, Enc.enc x1] = some (.tup [eL r.1, .tup [cuV zA r.2]])
theorem p45 {F : Nat} : C45 (e45 F).den F := fun x0 x1 _ h => zJ (x0, x1, ()) h
theorem o45 {D : Den} {σ : Sig} {F : Nat} (hF : zu Try.prog D σ) (H : H45 D σ F) : (e45 F).Ok Try.prog := by
 refine yd (f := 45) (show unk 45 = 45 from rfl) (fun args r h => ?_) ⟨Try.f45, Try.func45, rfl, rfl⟩
 obtain ⟨⟨x0, x1, _⟩, y, rfl, hy, rfl⟩ := zH h
 exact x8 hF (by kernel_rfl) Try.func45 rfl c45 rfl (show 2 ≤ Try.f45.ntmps by decide) (by decide) (t45 H x0 x1 _ ⟨rfl, rfl⟩ hy)
def zpi : AC := (.seq (.reg [] [jx 11 (.vN (.load (.ag [.s, .p]) (.t 5)) [4]), jm 12 4, jx 13 (.vN (.load (.ag [.s, .p]) (.t 5)) [4]), jx 14 (.callT (jf 45) [.t 12, .t 13] [4] []), jz (.store (.ag [.s, .p]) (.t 2) (.t 11)), jm 3 14] []) .ret)
def zlo : AC := (.seq (.reg [.clr [5]] [jm 9 4, jx 10 (.callT (jf 44) [.t 9] [4] []), jx 5 (.alloc (.agg [i0, .sl .nl (.ag [.s, .s]) 0 []])), jz (.store (.ag [.s, .p]) (.t 5) (.t 10))] []) zpi)
def znI : AC := (.seq (.reg [.clr [8]] [jm 6 0, jv 7 (.bld (.agg [.sl .nl .s 0 [], i0, .int .u64 (.ofNat 0)]) [(0, 0, .t 6)]), jx 8 (.box (.t 7)), jm 4 8] []) zlo)
def A20 : AC := (.seq (.reg [.clr [2]] [jx 2 (.alloc (.agg [i0, .sl .nl (.ag [.s, .s]) 0 []])), jv 3 (.mov (.k (.sl .nl .s 0 [])))] []) znI)
def zqS : List An := [⟨0, [.clr [2]], [], [], []⟩, ⟨1, [.clr [8]], [], [], []⟩, ⟨2, [.clr [5]], [], [2000004], []⟩, ⟨3, [], [], [4000004, 1000004, 3000004], []⟩]
theorem c20 : cC Try.prog Try.f20.ntmps zqS (Try.f20.body.getD .skip) = some A20 := by kernel_rfl
structure H20 (D : Den) (σ : Sig) (F : Nat) : Prop where
 c44 : C44 (D 44) F
 g44 : σ 44 = some (uf, false)
 c45 : C45 (D 45) F
 g45 : σ 45 = some (uf, false)
abbrev R20 (r : (GR × LI)) : (Nat → V) → Prop := RR Try.prog [.cell 2 26, .tmp 3] 0 true (.tup [Enc.enc (r.1 : GR), eL r.2])
section
variable {D : Den} {σ : Sig} {F : Nat} {r : (GR × LI)}
def wi (F : Nat) (x_1 : LB) : Option (GR × LI) :=
 (xF F (cu x_1 0 0)).bind fun r_2 =>
 (wN F (Cu.mk r_2.2) r_2.1).bind fun r_3 =>
 some (r_2.1, r_3.1)
theorem t20 (H : H20 D σ F) (x_1 : LB) (s : Nat → V) (hs : zl [(0, eB x_1)] s) (h : wi F x_1 = some r) : Run D σ (R20 r) (.run A20 []) s := by
 unfold wi at h
 have h0 := hs
 refine .seq (zt (zR ?_))
 refine ez [(0, _), (2, _)] ⟨za h0 rfl me, zb rfl⟩ ?_
 rintro s ⟨h0, h2⟩
 refine xp h2 (g0 nI fun h3 => gq (.nsq (.seq (zt (zR ?_)))))
 refine ez [(0, _), (2, _), (3, _), (8, _)] ⟨za h0 rfl me, za rfl rfl (zh rfl (mIx rfl)), za h3 rfl rfl, zb rfl⟩ ?_
 rintro s ⟨h0, h2, h3, h8⟩
 refine gm h0 fun h6 => g1 6 (.agg [eB x_1, ji 0, .int .u64 0]) h6 fun h7 => xB (.agg [eB x_1, ji 0, .int .u64 0]) (zy h7 rfl) h8 rfl (gm (rf (.ref (.bx 8) 0 [] (.agg [eB x_1, ji 0, .int .u64 0]))) fun h4 => gq (.nsq (.seq (zt (zR ?_)))))
 refine ez [(2, _), (3, _), (4, _), (5, _)] ⟨za h2 rfl (zh rfl (mIx rfl)), za h3 rfl rfl, za h4 rfl (zh rfl vz), zb rfl⟩ ?_
 rintro s ⟨h2, h3, h4, h5⟩
 refine gm h4 fun h9 => ?_
 obtain ⟨r_2, E_r_2, h⟩ := bind_some h
 refine vw (r := 8) (b := 4) (x := ((S3.mk x_1 0 (Kd.mk 0 : Kd .u64)) : CU)) (x' := r_2.2) (vs := []) (res := Enc.enc (r_2.1 : GR)) h4 (by exact (zK (v := cuV 8 ((S3.mk x_1 0 (Kd.mk 0 : Kd .u64)) : CU)) h9 rfl yA)) yn (fun f => zn) (H.c44 _ _ E_r_2) H.g44 te rfl (fun s_4 hb_4 ha_4 => xp (show s_4 5 = .gone from ha_4 5 _ _ h5 rfl rfl) (z7 (gV r_2.1) (zy rfl rfl) (zy rfl rfl) (xR (by first | rfl | simp [V.toks, V.tokss, Enc.toks_enc, z4])) ?_))
 refine gz [(2, bZ 2), (3, nI), (4, .ref (.bx 8) 0 [] (cV r_2.2)), (5, bG 5 r_2.1)] ⟨zc (show s_4 2 = (bZ 2) from ha_4 2 _ _ h2 rfl (zh rfl (mIx rfl))) (zD rfl rfl (yp (zq rfl (zq rfl rfl)))), zc (show s_4 3 = nI from ha_4 3 _ _ h3 rfl rfl) rfl, zc (show s_4 4 = (.ref (.bx 8) 0 [] (cV r_2.2)) from hb_4 4 h4) (zD rfl rfl Wx), zc rfl rfl⟩ ?_
 rintro s ⟨h2, h3, h4, h5⟩
 refine .nsq (.seq (rg (Kr (r := 8) (b := 4) (x := r_2.2) (gV r_2.1) h4 (ZI [(5, bG 5 r_2.1)] h5 rfl rfl) [(5, bG 5 r_2.1)] h5 rfl (by simp [V.toks, V.tokss, z5, Enc.toks_enc, zA, vu]) (by simp [V.toks, V.tokss, z5, Enc.toks_enc, zA, vu]) (gm h4 fun h12 => Kr (r := 8) (b := 4) (x := r_2.2) (gV r_2.1) h4 (ZI [(5, bG 5 r_2.1)] h5 rfl rfl) [(5, bG 5 r_2.1)] h5 rfl (by simp [V.toks, V.tokss, z5, Enc.toks_enc, zA, vu]) (by simp [V.toks, V.tokss, z5, Enc.toks_enc, zA, vu]) ?_))))
 obtain ⟨r_3, E_r_3, h⟩ := bind_some h
 refine vw (r := 8) (b := 4) (x := r_2.2) (x' := r_3.2) (vs := [Enc.enc (r_2.1 : GR)]) (res := eL r_3.1) h4 (by exact (zK (v := cuV 8 r_2.2) h12 rfl (zK (v := Enc.enc (r_2.1 : GR)) rfl rfl yA))) (z9 te yn) fm1 (H.c45 _ _ _ E_r_3) H.g45 te rfl (fun s_5 hb_5 ha_5 => z7 (gV r_2.1) (zy (show s_5 2 = (bZ 2) from ha_5 2 _ _ h2 rfl (zh rfl (mIx rfl))) rfl) (zy (show s_5 11 = (gV r_2.1) from ha_5 11 (gV r_2.1) _ rfl rfl mIE) rfl) (xR (by first | rfl | simp [V.toks, V.tokss, Enc.toks_enc, z4])) (gm (zc rfl uE) fun h3 => ?_))
 refine gz [(2, bG 2 r_2.1), (3, _)] ⟨zc (show s_5 2 = (bZ 2) from ha_5 2 _ _ h2 rfl (zh rfl (mIx rfl))) rfl, h3⟩ ?_
 rintro s ⟨h2, h3⟩
 refine .nsq (.ret ?_)
 have hr := Option.some.inj h
 subst hr
 exact rrB (wI h2 (by kernel_rfl)) (zf h3) (xL (wo (zY (yO (x := (r_2.1 : GR))) (zY (yO (x := (r_3.1 : LI))) xv))))
end
def e20 (F : Nat) : Ent := ent 20 (fun (x : (LB × Unit)) => wi F x.1) (fun (r : (GR × LI)) => (.tup [Enc.enc (r.1 : GR), eL r.2])) 0 true []
abbrev C20 (D : List V → Option V) (F : Nat) : Prop := ∀ (x0 : LB) r, wi F x0 = some r → D [Enc.enc x0] = some (.tup [Enc.enc (r.1 : GR), eL r.2])
theorem p20 {F : Nat} : C20 (e20 F).den F := fun x0 _ h => zJ (x0, ()) h
theorem o20 {D : Den} {σ : Sig} {F : Nat} (hF : zu Try.prog D σ) (H : H20 D σ F) : (e20 F).Ok Try.prog := by
 refine yd (f := 20) (show unk 20 = 20 from rfl) (fun args r h => ?_) ⟨Try.f20, Try.func20, rfl, rfl⟩
 obtain ⟨⟨x0, _⟩, y, rfl, hy, rfl⟩ := zH h
 exact zk hF (by kernel_rfl) Try.func20 rfl c20 (show 1 ≤ Try.f20.ntmps by decide) (t20 H x0 _ rfl hy)
def zqp : AC := (.seq (.reg [] [jm 4 0, jx 5 (.call (jf 20) [.t 4]), jv 6 (.ext (.t 5) 0), jv 7 (.ext (.t 5) 1), jz (.store (.ag [.s, .p]) (.t 2) (.t 6)), jm 3 7] []) .ret)
def A5 : AC := (.seq (.reg [.clr [2]] [jx 2 (.alloc (.agg [i0, .sl .nl (.ag [.s, .s]) 0 []])), jv 3 (.mov (.k (.sl .nl .s 0 [])))] []) zqp)
def an5 : List An := [⟨0, [.clr [2]], [], [], []⟩]
theorem c5 : cC Try.prog Try.f5.ntmps an5 (Try.f5.body.getD .skip) = some A5 := by kernel_rfl
structure H5 (D : Den) (σ : Sig) (F : Nat) : Prop where
 c20 : C20 (D 20) F
 g20 : σ 20 = some (0, true)
abbrev R5 (r : (GR × LI)) : (Nat → V) → Prop := RR Try.prog [.cell 2 26, .tmp 3] 0 true (.tup [Enc.enc (r.1 : GR), eL r.2])
section
variable {D : Den} {σ : Sig} {F : Nat} {r : (GR × LI)}
def xG (F : Nat) (x_1 : LB) : Option (GR × LI) :=
 (wi F x_1).bind fun r_2 =>
 some (r_2.1, r_2.2)
theorem t5 (H : H5 D σ F) (x_1 : LB) (s : Nat → V) (hs : zl [(0, eB x_1)] s) (h : xG F x_1 = some r) : Run D σ (R5 r) (.run A5 []) s := by
 unfold xG at h
 have h0 := hs
 refine .seq (zt (zR ?_))
 refine ez [(0, _), (2, _)] ⟨za h0 rfl me, zb rfl⟩ ?_
 rintro s ⟨h0, h2⟩
 refine xp h2 (g0 nI fun h3 => gq (.nsq (.seq (rg (gm h0 fun h4 => ?_)))))
 obtain ⟨r_2, E_r_2, h⟩ := bind_some h
 refine zB (m := 0) (al := true) (r := .tup [Enc.enc (r_2.1 : GR), eL r_2.2]) [Enc.enc (x_1 : LB)] (zd (v := eB x_1) h4 rfl (Enc.erase_enc (x_1 : LB)) zw) (H.c20 _ _ E_r_2) H.g20 (Zd (xk (v := eB x_1) h4 rfl rfl uV)) rfl rfl rfl (g1 5 (gV r_2.1) (rf (.tup [gV r_2.1, eL r_2.2])) fun h6 => g1 5 (eL r_2.2) (rf (.tup [gV r_2.1, eL r_2.2])) fun h7 => z7 (gV r_2.1) (zy rfl rfl) (zy h6 rfl) (xR (by first | rfl | simp [V.toks, V.tokss, Enc.toks_enc, z4])) (gm (zc h7 uE) fun h3 => gz [(2, bG 2 r_2.1), (3, _)] ⟨zc rfl rfl, h3⟩ ?_))
 rintro s ⟨h2, h3⟩
 refine .nsq (.ret ?_)
 have hr := Option.some.inj h
 subst hr
 exact rrB (wI h2 (by kernel_rfl)) (zf h3) (xL (wo (zY (yO (x := (r_2.1 : GR))) (zY (yO (x := (r_2.2 : LI))) xv))))
end
def e5 (F : Nat) : Ent := ent 5 (fun (x : (LB × Unit)) => xG F x.1) (fun (r : (GR × LI)) => (.tup [Enc.enc (r.1 : GR), eL r.2])) 0 true []
abbrev C5 (D : List V → Option V) (F : Nat) : Prop := ∀ (x0 : LB) r, xG F x0 = some r → D [Enc.enc x0] = some (.tup [Enc.enc (r.1 : GR), eL r.2])
theorem p5 {F : Nat} : C5 (e5 F).den F := fun x0 _ h => zJ (x0, ()) h
theorem o5 {D : Den} {σ : Sig} {F : Nat} (hF : zu Try.prog D σ) (H : H5 D σ F) : (e5 F).Ok Try.prog := by
 refine yd (f := 5) (show unk 5 = 5 from rfl) (fun args r h => ?_) ⟨Try.f5, Try.func5, rfl, rfl⟩
 obtain ⟨⟨x0, _⟩, y, rfl, hy, rfl⟩ := zH h
 exact zk hF (by kernel_rfl) Try.func5 rfl c5 (show 1 ≤ Try.f5.ntmps by decide) (t5 H x0 _ rfl hy)
def zmU : AC := (.seq (.reg [] [jm 7 0, jm 8 1, jv 9 (.bin .geq (.t 7) (.t 8)), jm 10 9, jg 11 10 true (.mov (.t 0)), jg 12 10 true (.mov (.t 2)), jg 13 10 true (.bin .leq (.t 11) (.t 12)), jv 14 (.pick (.t 10) (.t 13) kf), jm 6 14] []) .ret)
def A46 : AC := (.seq (.reg [] [jv 6 (.mov kf)] []) zmU)
def zrj : List An := []
theorem c46 : cC Try.prog Try.f46.ntmps zrj (Try.f46.body.getD .skip) = some A46 := by kernel_rfl
structure H46 (D : Den) (σ : Sig) (F : Nat) : Prop where
 mk ::
abbrev R46 (r : Bool) : (Nat → V) → Prop := RR Try.prog [.tmp 6] 0 false (Enc.enc (r : Bool))
section
variable {D : Den} {σ : Sig} {F : Nat} {r : Bool}
def ZN (F : Nat) (x_1 : Int) (x_2 : Int) (x_3 : Int) : Option Bool :=
 bif decide (x_1 ≥ x_2) then
  some (decide (x_1 ≤ x_3))
 else
  some false
theorem t46 (H : H46 D σ F) (x_1 : Int) (x_2 : Int) (x_3 : Int) (s : Nat → V) (hs : zl [(0, ji x_1), (1, ji x_2), (2, ji x_3)] s) (h : ZN F x_1 x_2 x_3 = some r) : Run D σ (R46 r) (.run A46 []) s := by
 unfold ZN at h
 obtain ⟨h0, h1, h2⟩ := hs
 refine .seq (rg (g0 (jb false) fun h6 => gq (.nsq (.seq (rg (gm h0 fun h7 => gm h1 fun h8 => g2 7 8 (jb (decide (x_1 ≥ x_2))) h7 h8 fun h9 => gm h9 fun h10 => zP (c := decide (x_1 ≥ x_2)) h (fun hg4 h => ?_) (fun hg4 h => ?_)))))))
 · refine zg (ct h10 hg4) (gm h0 fun h11 => zg (ct h10 hg4) (gm h2 fun h12 => zg (ct h10 hg4) (g2 11 12 (jb (decide (x_1 ≤ x_3))) h11 h12 fun h13 => g2 10 13 (jb (decide (x_1 ≤ x_3))) (ct h10 hg4) h13 fun h14 => gm h14 fun h6 => gq (.nsq (.ret ?_)))))
   have hr := Option.some.inj h
   subst hr
   exact rrA (zf h6) rfl
 iterate 3 refine ym (ct h10 hg4) ?_
 refine g2 10 13 (jb false) (ct h10 hg4) (rf (.tup [])) fun h14 => gm h14 fun h6 => gq (.nsq (.ret ?_))
 have hr := Option.some.inj h
 subst hr
 exact rrA (zf h6) rfl
end
def e46 (F : Nat) : Ent := ent 46 (fun (x : (Int × Int × Int × Unit)) => ZN F x.1 x.2.1 x.2.2.1) (fun (r : Bool) => (Enc.enc (r : Bool))) 0 false []
abbrev C46 (D : List V → Option V) (F : Nat) : Prop := ∀ (x0 : Int) (x1 : Int) (x2 : Int) r, ZN F x0 x1 x2 = some r → D [Enc.enc x0, Enc.enc x1, Enc.enc x2] = some (Enc.enc (r : Bool))
theorem p46 {F : Nat} : C46 (e46 F).den F := fun x0 x1 x2 _ h => zJ (x0, x1, x2, ()) h
theorem o46 {D : Den} {σ : Sig} {F : Nat} (hF : zu Try.prog D σ) (H : H46 D σ F) : (e46 F).Ok Try.prog := by
 refine yd (f := 46) (show unk 46 = 46 from rfl) (fun args r h => ?_) ⟨Try.f46, Try.func46, rfl, rfl⟩
 obtain ⟨⟨x0, x1, x2, _⟩, y, rfl, hy, rfl⟩ := zH h
 exact zk hF (by kernel_rfl) Try.func46 rfl c46 (show 3 ≤ Try.f46.ntmps by decide) (t46 H x0 x1 x2 _ ⟨rfl, rfl, rfl⟩ hy)
def zmz : AC := (.seq (.reg [] [jm 3 0, jm 4 0, jv 5 (.bin .neq (.t 3) (.t 4)), jm 2 5] []) .ret)
def A77 : AC := (.seq (.reg [] [jv 2 (.mov kf)] []) zmz)
def zqh : List An := []
theorem c77 : cC Try.prog Try.f77.ntmps zqh (Try.f77.body.getD .skip) = some A77 := by kernel_rfl
structure H77 (D : Den) (σ : Sig) (F : Nat) : Prop where
 mk ::
abbrev R77 (r : Bool) : (Nat → V) → Prop := RR Try.prog [.tmp 2] 0 false (Enc.enc (r : Bool))
section
variable {D : Den} {σ : Sig} {F : Nat} {r : Bool}
def wD (F : Nat) (x_1 : Int) : Option Bool :=
 some (x_1 != x_1)
theorem t77 (H : H77 D σ F) (x_1 : Int) (s : Nat → V) (hs : zl [(0, ji x_1)] s) (h : wD F x_1 = some r) : Run D σ (R77 r) (.run A77 []) s := by
 unfold wD at h
 have h0 := hs
 refine .seq (rg (g0 (jb false) fun h2 => gq (.nsq (.seq (rg (gm h0 fun h3 => gm h0 fun h4 => g2 3 4 (jb (x_1 != x_1)) h3 h4 fun h5 => gm h5 fun h2 => gq (.nsq (.ret ?_))))))))
 have hr := Option.some.inj h
 subst hr
 exact rrA (zf h2) rfl
end
def e77 (F : Nat) : Ent := ent 77 (fun (x : (Int × Unit)) => wD F x.1) (fun (r : Bool) => (Enc.enc (r : Bool))) 0 false []
abbrev C77 (D : List V → Option V) (F : Nat) : Prop := ∀ (x0 : Int) r, wD F x0 = some r → D [Enc.enc x0] = some (Enc.enc (r : Bool))
theorem p77 {F : Nat} : C77 (e77 F).den F := fun x0 _ h => zJ (x0, ()) h
theorem o77 {D : Den} {σ : Sig} {F : Nat} (hF : zu Try.prog D σ) (H : H77 D σ F) : (e77 F).Ok Try.prog := by
 refine yd (f := 77) (show unk 77 = 77 from rfl) (fun args r h => ?_) ⟨Try.f77, Try.func77, rfl, rfl⟩
 obtain ⟨⟨x0, _⟩, y, rfl, hy, rfl⟩ := zH h
 exact zk hF (by kernel_rfl) Try.func77 rfl c77 (show 1 ≤ Try.f77.ntmps by decide) (t77 H x0 _ rfl hy)
def zll : AC := (.cond (.t 12) (.seq (.reg [] [jv 4 (.mov (jn 0))] []) .ret) .skip)
def zpv : AC := (.seq (.reg [] [jv 4 (.mov (jn (-1)))] []) .ret)
def zlc : AC := (.cond (.t 11) (.seq (.seq (.reg [] [jm 12 6] []) zll) zpv) .skip)
def zng : AC := (.cond (.t 13) (.seq (.reg [] [jv 4 (.mov (jn 1))] []) .ret) .skip)
def zjE : AC := (.cond (.t 16) (.seq (.reg [] [jv 4 (.mov (jn (-1)))] []) .ret) .skip)
def zi7 : AC := (.cond (.t 19) (.seq (.reg [] [jv 4 (.mov (jn 1))] []) .ret) .skip)
def zky : AC := (.seq (.reg [] [jv 4 (.mov (jn 0))] []) .ret)
def zjF : AC := (.seq (.seq (.reg [] [jm 17 0, jm 18 1, jv 19 (.bin .gtr (.t 17) (.t 18))] []) zi7) zky)
def zmb : AC := (.seq (.seq (.reg [] [jm 14 0, jm 15 1, jv 16 (.bin .lss (.t 14) (.t 15))] []) zjE) zjF)
def zlI : AC := (.seq (.seq (.reg [] [jm 13 6] []) zng) zmb)
def zmk : AC := (.seq (.seq (.reg [] [jm 11 5] []) zlc) zlI)
def znZ : AC := (.seq (.reg [] [jm 9 1, jx 10 (.call (jf 77) [.t 9]), jm 6 10] []) zmk)
def zmT : AC := (.seq (.reg [] [jm 7 0, jx 8 (.call (jf 77) [.t 7]), jm 5 8] []) znZ)
def A68 : AC := (.seq (.reg [] [jv 4 (.mov (jn 0))] []) zmT)
def zqm : List An := []
theorem c68 : cC Try.prog Try.f68.ntmps zqm (Try.f68.body.getD .skip) = some A68 := by kernel_rfl
structure H68 (D : Den) (σ : Sig) (F : Nat) : Prop where
 c77 : C77 (D 77) F
 g77 : σ 77 = some (0, false)
abbrev R68 (r : Int) : (Nat → V) → Prop := RR Try.prog [.tmp 4] 0 false (Enc.enc (r : Int))
section
variable {D : Den} {σ : Sig} {F : Nat} {r : Int}
def xT (F : Nat) (x_1 : Int) (x_2 : Int) : Option Int :=
 (wD F x_1).bind fun r_3 =>
 (wD F x_2).bind fun r_4 =>
 bif r_3 then
  bif r_4 then
   some 0
  else
   some (-1)
 else
  bif r_4 then
   some 1
  else
   bif decide (x_1 < x_2) then
    some (-1)
   else
    bif decide (x_1 > x_2) then
     some 1
    else
     some 0
theorem t68 (H : H68 D σ F) (x_1 : Int) (x_2 : Int) (s : Nat → V) (hs : zl [(0, ji x_1), (1, ji x_2)] s) (h : xT F x_1 x_2 = some r) : Run D σ (R68 r) (.run A68 []) s := by
 unfold xT at h
 obtain ⟨h0, h1⟩ := hs
 refine .seq (rg (g0 (ji 0) fun h4 => gq (.nsq (.seq (rg (gm h0 fun h7 => ?_))))))
 obtain ⟨r_3, E_r_3, h⟩ := bind_some h
 refine zB (m := 0) (al := false) (r := Enc.enc (r_3 : Bool)) [Enc.enc (x_1 : Int)] (zd (v := ji x_1) h7 rfl rfl zw) (H.c77 _ _ E_r_3) H.g77 rfl rfl rfl rfl (gm (rf (jb r_3)) fun h5 => gq (.nsq (.seq (rg (gm h1 fun h9 => ?_)))))
 obtain ⟨r_4, E_r_4, h⟩ := bind_some h
 refine zB (m := 0) (al := false) (r := Enc.enc (r_4 : Bool)) [Enc.enc (x_2 : Int)] (zd (v := ji x_2) h9 rfl rfl zw) (H.c77 _ _ E_r_4) H.g77 rfl rfl rfl rfl (gm (rf (jb r_4)) fun h6 => gq (.nsq (.seq (.seq (rg (gm h5 fun h11 => gq (.nsq (zi (t := r_3) h11 h (fun h => ?_) (fun h => ?_)))))))))
 · refine .seq (.seq (rg (gm h6 fun h12 => gq (.nsq (zi (t := r_4) h12 h (fun h => ?_) (fun h => ?_))))))
   · refine .seq (rg (g0 (ji 0) fun h4 => gq (.nsq (.ret ?_))))
     have hr := Option.some.inj h
     subst hr
     exact rrA (zf h4) rfl
   refine .skip (.nsq (.seq (rg (g0 (ji (-1)) fun h4 => gq (.nsq (.ret ?_))))))
   have hr := Option.some.inj h
   subst hr
   exact rrA (zf h4) rfl
 refine .skip (.nsq (.seq (.seq (rg (gm h6 fun h13 => gq (.nsq (zi (t := r_4) h13 h (fun h => ?_) (fun h => ?_))))))))
 · refine .seq (rg (g0 (ji 1) fun h4 => gq (.nsq (.ret ?_))))
   have hr := Option.some.inj h
   subst hr
   exact rrA (zf h4) rfl
 refine .skip (.nsq (.seq (.seq (rg (gm h0 fun h14 => gm h1 fun h15 => g2 14 15 (jb (decide (x_1 < x_2))) h14 h15 fun h16 => gq (.nsq (zi (t := decide (x_1 < x_2)) h16 h (fun h => ?_) (fun h => ?_))))))))
 · refine .seq (rg (g0 (ji (-1)) fun h4 => gq (.nsq (.ret ?_))))
   have hr := Option.some.inj h
   subst hr
   exact rrA (zf h4) rfl
 refine .skip (.nsq (.seq (.seq (rg (gm h0 fun h17 => gm h1 fun h18 => g2 17 18 (jb (decide (x_1 > x_2))) h17 h18 fun h19 => gq (.nsq (zi (t := decide (x_1 > x_2)) h19 h (fun h => ?_) (fun h => ?_))))))))
 · refine .seq (rg (g0 (ji 1) fun h4 => gq (.nsq (.ret ?_))))
   have hr := Option.some.inj h
   subst hr
   exact rrA (zf h4) rfl
 refine .skip (.nsq (.seq (rg (g0 (ji 0) fun h4 => gq (.nsq (.ret ?_))))))
 have hr := Option.some.inj h
 subst hr
 exact rrA (zf h4) rfl
end
def e68 (F : Nat) : Ent := ent 68 (fun (x : (Int × Int × Unit)) => xT F x.1 x.2.1) (fun (r : Int) => (Enc.enc (r : Int))) 0 false []
abbrev C68 (D : List V → Option V) (F : Nat) : Prop := ∀ (x0 : Int) (x1 : Int) r, xT F x0 x1 = some r → D [Enc.enc x0, Enc.enc x1] = some (Enc.enc (r : Int))
theorem p68 {F : Nat} : C68 (e68 F).den F := fun x0 x1 _ h => zJ (x0, x1, ()) h
theorem o68 {D : Den} {σ : Sig} {F : Nat} (hF : zu Try.prog D σ) (H : H68 D σ F) : (e68 F).Ok Try.prog := by
 refine yd (f := 68) (show unk 68 = 68 from rfl) (fun args r h => ?_) ⟨Try.f68, Try.func68, rfl, rfl⟩
 obtain ⟨⟨x0, x1, _⟩, y, rfl, hy, rfl⟩ := zH h
 exact zk hF (by kernel_rfl) Try.func68 rfl c68 (show 2 ≤ Try.f68.ntmps by decide) (t68 H x0 x1 _ ⟨rfl, rfl⟩ hy)
def zl0 : AC := (.cond (.t 19) (.seq (.reg [] [jv 4 (.mov (jn 1))] []) .ret) .skip)
def znc : AC := (.cond (.t 28) (.seq (.reg [] [jm 29 8, jm 4 29] []) .ret) .skip)
def zmq : AC := (.seq (.reg [] [jm 27 8, jv 28 (.bin .neq (.t 27) (jn 0))] []) znc)
def zoo : AC := (.seq (.reg [] [jm 24 6, jm 25 7, jx 26 (.call (jf 68) [.t 24, .t 25]), jm 8 26] []) zmq)
def zpq : AC := (.seq (.reg [] [jm 20 1, jm 21 5, jv 22 (.idx (.t 20) (.t 21) 1), jv 23 (.load .s (.t 22)), jm 7 23] []) zoo)
def zpm : AC := (.seq (.seq (.reg [] [jm 16 5, jm 17 1, jv 18 (.len (.t 17)), jv 19 (.bin .geq (.t 16) (.t 18))] []) zl0) zpq)
def zkA : AC := (.reg [] [jv 30 (.bin .add (.t 11) (jn 1)), jm 11 30] [])
def zoA : AC := (.seq (.block 1 (.seq (.reg [] [jm 13 11, jv 14 (.idx (.t 9) (.t 11) 1), jv 15 (.load .s (.t 14)), jm 5 13, jm 6 15] []) zpm)) zkA)
def zo7 : AC := (.seq (.cond (.t 12) .skip (.exit 0)) zoA)
def zgw : AC := (.seq (.reg [] [jv 12 (.bin .lss (.t 11) (.t 10))] []) zo7)
def zkh : AC := (.cond (.t 35) (.seq (.reg [] [jv 4 (.mov (jn (-1)))] []) .ret) .skip)
def zkC : AC := (.seq (.reg [] [jv 4 (.mov (jn 0))] []) .ret)
def zfJ : AC := (.seq (.seq (.reg [] [jm 31 0, jv 32 (.len (.t 31)), jm 33 1, jv 34 (.len (.t 33)), jv 35 (.bin .lss (.t 32) (.t 34))] []) zkh) zkC)
def zkg : AC := (.block 0 (.loop zgw))
def zkn : AC := (.seq (.seq (.reg [] [jm 9 0, jv 10 (.len (.t 9)), jv 11 (.mov (jn 0))] []) zkg) zfJ)
def A47 : AC := (.seq (.reg [] [jv 4 (.mov (jn 0))] []) zkn)
def zqj : List An := []
theorem c47 : cC Try.prog Try.f47.ntmps zqj (Try.f47.body.getD .skip) = some A47 := by kernel_rfl
structure H47 (D : Den) (σ : Sig) (F : Nat) : Prop where
 c68 : C68 (D 68) F
 g68 : σ 68 = some (0, false)
abbrev R47 (r : Int) : (Nat → V) → Prop := RR Try.prog [.tmp 4] 0 false (Enc.enc (r : Int))
section
variable {D : Den} {σ : Sig} {F : Nat} {r : Int}
def wA (F : Nat) (x_1 : LI) (x_2 : LI)  : Nat → Int → Option Int
 | 0, _ => none
 | k + 1, x_6 =>
   bif decide (x_6 < (x_1.length : Int)) then
    (idx x_1 x_6).bind fun e_10 =>
    bif decide (x_6 ≥ (x_2.length : Int)) then
     some 1
    else
     (idx x_2 x_6).bind fun e_11 =>
     (xT F e_10 e_11).bind fun r_12 =>
     bif (r_12 != 0) then
      some r_12
     else
      (wA F x_1 x_2 k) (w64 (x_6 + 1))
   else
    bif decide ((x_1.length : Int) < (x_2.length : Int)) then
     some (-1)
    else
     some 0
theorem zgD (H : H47 D σ F) (x_1 : LI) (x_2 : LI)  : ∀ (k : Nat) (x_6 : Int) (s : Nat → V), zl [(0, eL x_1), (1, eL x_2), (4, ji 0), (9, eL x_1), (10, ji (x_1.length : Int)), (11, ji x_6)] s → wA F x_1 x_2 k x_6 = some r → Run D σ (R47 r) (.run zgw [.lp zgw, .bk 0, .sq zfJ]) s := by
 intro k
 induction k with
 | zero => intro x_6 s _ h; exact nm h
 | succ k ih =>
   intro x_6 s hs h
   rw [wA] at h
   obtain ⟨h0, h1, h4, h9, h10, h11⟩ := hs
   refine .seq (rg (g2 11 10 (jb (decide (x_6 < (x_1.length : Int)))) h11 h10 fun h12 => gq (.nsq (.seq (zi (t := decide (x_6 < (x_1.length : Int))) h12 h (fun h => ?_) (fun h => ?_))))))
   · refine .skip (.nsq (.seq (.block (.seq (rg (gm h11 fun h13 => ?_))))))
     obtain ⟨e_10, E_e_10, h⟩ := bind_some h
     refine gv (.ref .sh 0 [] (ji e_10)) (yu (t := .sh) (lo := 0) (xs := x_1) h9 h11 E_e_10 rfl rfl) fun h14 => g1 14 (ji e_10) h14 fun h15 => gm h13 fun h5 => gm h15 fun h6 => gq (.nsq (.seq (.seq (rg (gm h5 fun h16 => gm h1 fun h17 => gv (ji (x_2.length : Int)) (yo (xs := x_2) h17) fun h18 => g2 16 18 (jb (decide (x_6 ≥ (x_2.length : Int)))) h16 h18 fun h19 => gq (.nsq (zi (t := decide (x_6 ≥ (x_2.length : Int))) h19 h (fun h => ?_) (fun h => ?_))))))))
     · refine .seq (rg (g0 (ji 1) fun h4 => gq (.nsq (.ret ?_))))
       have hr := Option.some.inj h
       subst hr
       exact rrA (zf h4) rfl
     refine .skip (.nsq (.seq (rg (gm h1 fun h20 => gm h5 fun h21 => ?_))))
     obtain ⟨e_11, E_e_11, h⟩ := bind_some h
     refine gv (.ref .sh 0 [] (ji e_11)) (yu (t := .sh) (lo := 0) (xs := x_2) h20 h21 E_e_11 rfl rfl) fun h22 => g1 22 (ji e_11) h22 fun h23 => gm h23 fun h7 => gq (.nsq (.seq (rg (gm h6 fun h24 => gm h7 fun h25 => ?_))))
     obtain ⟨r_12, E_r_12, h⟩ := bind_some h
     refine zB (m := 0) (al := false) (r := Enc.enc (r_12 : Int)) [Enc.enc (e_10 : Int), Enc.enc (e_11 : Int)] (zd (v := ji e_10) h24 rfl rfl (zd (v := ji e_11) h25 rfl rfl zw)) (H.c68 _ _ _ E_r_12) H.g68 rfl rfl rfl rfl (gm (rf (ji r_12)) fun h8 => gq (.nsq (.seq (rg (gm h8 fun h27 => g1 27 (jb (r_12 != 0)) h27 fun h28 => gq (.nsq (zi (t := (r_12 != 0)) h28 h (fun h => ?_) (fun h => ?_))))))))
     · refine .seq (rg (gm h8 fun h29 => gm h29 fun h4 => gq (.nsq (.ret ?_))))
       have hr := Option.some.inj h
       subst hr
       exact rrA (zf h4) rfl
     refine .skip (.nbk (.nsq (rg (g1 11 (ji (w64 (x_6 + 1))) h11 fun h30 => gm h30 fun h11 => gq (.nlp ?_)))))
     exact ih (w64 (x_6 + 1)) _ ⟨h0, h1, h4, h9, h10, h11⟩ h
   refine .exit (.esq (.elp (.ebk (.nsq (.seq (.seq (rg (gm h0 fun h31 => gv (ji (x_1.length : Int)) (yo (xs := x_1) h31) fun h32 => gm h1 fun h33 => gv (ji (x_2.length : Int)) (yo (xs := x_2) h33) fun h34 => g2 32 34 (jb (decide ((x_1.length : Int) < (x_2.length : Int)))) h32 h34 fun h35 => gq (.nsq (zi (t := decide ((x_1.length : Int) < (x_2.length : Int))) h35 h (fun h => ?_) (fun h => ?_)))))))))))
   · refine .seq (rg (g0 (ji (-1)) fun h4 => gq (.nsq (.ret ?_))))
     have hr := Option.some.inj h
     subst hr
     exact rrA (zf h4) rfl
   refine .skip (.nsq (.seq (rg (g0 (ji 0) fun h4 => gq (.nsq (.ret ?_))))))
   have hr := Option.some.inj h
   subst hr
   exact rrA (zf h4) rfl
def we (F : Nat) (x_1 : LI) (x_2 : LI) : Option Int :=
 wA F x_1 x_2 F 0
theorem t47 (H : H47 D σ F) (x_1 : LI) (x_2 : LI) (s : Nat → V) (hs : zl [(0, eL x_1), (1, eL x_2)] s) (h : we F x_1 x_2 = some r) : Run D σ (R47 r) (.run A47 []) s := by
 unfold we at h
 obtain ⟨h0, h1⟩ := hs
 refine .seq (rg (g0 (ji 0) fun h4 => gq (.nsq (.seq (.seq (rg (gm h0 fun h9 => gv (ji (x_1.length : Int)) (yo (xs := x_1) h9) fun h10 => g0 (ji 0) fun h11 => gq (.nsq (.block (.loop ?_))))))))))
 exact zgD H x_1 x_2 F 0 _ ⟨h0, h1, h4, h9, h10, h11⟩ h
end
def e47 (F : Nat) : Ent := ent 47 (fun (x : (LI × LI × Unit)) => we F x.1 x.2.1) (fun (r : Int) => (Enc.enc (r : Int))) 0 false []
abbrev C47 (D : List V → Option V) (F : Nat) : Prop := ∀ (x0 : LI) (x1 : LI) r, we F x0 x1 = some r → D [Enc.enc x0, Enc.enc x1] = some (Enc.enc (r : Int))
theorem p47 {F : Nat} : C47 (e47 F).den F := fun x0 x1 _ h => zJ (x0, x1, ()) h
theorem o47 {D : Den} {σ : Sig} {F : Nat} (hF : zu Try.prog D σ) (H : H47 D σ F) : (e47 F).Ok Try.prog := by
 refine yd (f := 47) (show unk 47 = 47 from rfl) (fun args r h => ?_) ⟨Try.f47, Try.func47, rfl, rfl⟩
 obtain ⟨⟨x0, x1, _⟩, y, rfl, hy, rfl⟩ := zH h
 exact zk hF (by kernel_rfl) Try.func47 rfl c47 (show 2 ≤ Try.f47.ntmps by decide) (t47 H x0 x1 _ ⟨rfl, rfl⟩ hy)
def zil : AC := (.cond (.t 48) (.seq (.reg [] [jv 2 (.mov kf)] []) .ret) .skip)
def zlu : AC := (.seq (.reg [] [jv 17 (.idxA (.t 4) (jn 0) 2 1), jv 18 (.load .s (.t 17)), jv 19 (.bin .lss (.t 18) (jn 0)), jm 20 19, jg 21 20 false (.idxA (.t 4) (jn 0) 2 1), jg 22 20 false (.load .s (.t 21)), jg 23 20 false (.idxA (.t 4) (jn 1) 2 1), jg 24 20 false (.load .s (.t 23)), jg 25 20 false (.bin .geq (.t 22) (.t 24)), jv 26 (.pick (.t 20) kt (.t 25)), jm 27 26, jg 28 27 false (.idxA (.t 4) (jn 1) 2 1), jg 29 27 false (.load .s (.t 28)), jg 30 27 false (.fld (.t 1) 0 0), jg 31 27 false (.load .s (.t 30)), jg 32 27 false (.bin .geq (.t 29) (.t 31)), jv 33 (.pick (.t 27) kt (.t 32)), jm 34 33, jg 35 34 false (.mov (.t 3)), jg 36 34 false (.bin .gtr (.t 35) (jn 0)), jg 37 34 false (.mov (.t 36)), jg 38 37 true (.fld (.t 1) 1 1), jg 39 37 true (.load .p (.t 38)), jg 40 37 true (.mov (.t 3)), jg 41 37 true (.bin .sub (.t 40) (jn 1)), jg 42 37 true (.idx (.t 39) (.t 41) 2), jg 43 37 true (.sliceA (.t 42) 2 .s), jg 44 37 true (.sliceA (.t 4) 2 .s), .mk (some 45) (some (37, true)) false (.call (jf 47) [.t 43, .t 44]), jg 46 37 true (.bin .geq (.t 45) (jn 0)), jg 47 34 false (.pick (.t 37) (.t 46) kf), jv 48 (.pick (.t 34) kt (.t 47))] []) zil)
def zis : AC := (.reg [] [jv 49 (.bin .add (.t 12) (jn 1)), jm 12 49] [])
def zls : AC := (.seq (.block 1 (.seq (.reg [.clr [4]] [jm 14 12, jv 15 (.idx (.t 10) (.t 12) 2), jv 16 (.load (.ag [.s, .s]) (.t 15)), jx 4 (.alloc (.agg [i0, i0])), jm 3 14, jz (.store (.ag [.s, .s]) (.t 4) (.t 16))] []) zlu)) zis)
def zpS : AC := (.seq (.cond (.t 13) .skip (.exit 0)) zls)
def Ms : AC := (.seq (.reg [] [jv 13 (.bin .lss (.t 12) (.t 11))] []) zpS)
def zb6 : AC := (.seq (.reg [] [jv 2 (.mov kt)] []) .ret)
def zoD : AC := (.cond (.t 8) (.seq (.reg [] [jv 2 (.mov kf)] []) .ret) .skip)
def zjU : AC := (.block 0 (.loop Ms))
def zjX : AC := (.seq (.seq (.reg [] [jv 9 (.fld (.t 1) 1 1), jv 10 (.load .p (.t 9)), jv 11 (.len (.t 10)), jv 12 (.mov (jn 0))] []) zjU) zb6)
def zlY : AC := (.seq (.seq (.reg [] [jv 5 (.fld (.t 1) 0 0), jv 6 (.load .s (.t 5)), jx 7 (.call (jf 46) [.t 6, jn 0, jn 8]), jv 8 (.un .not (.t 7))] []) zoD) zjX)
def A21 : AC := (.seq (.reg [.clr [1]] [jx 1 (.box (.t 0)), jv 2 (.mov kf)] []) zlY)
def zqy : List An := [⟨0, [.clr [1]], [], [], []⟩, ⟨5, [.clr [4]], [], [], []⟩]
theorem c21 : cC Try.prog Try.f21.ntmps zqy (Try.f21.body.getD .skip) = some A21 := by kernel_rfl
structure H21 (D : Den) (σ : Sig) (F : Nat) : Prop where
 c46 : C46 (D 46) F
 g46 : σ 46 = some (0, false)
 c47 : C47 (D 47) F
 g47 : σ 47 = some (0, false)
abbrev R21 (r : Bool) : (Nat → V) → Prop := RR Try.prog [.tmp 2] 0 false (Enc.enc (r : Bool))
section
variable {D : Den} {σ : Sig} {F : Nat} {r : Bool}
def wy (F : Nat) (x_1 : GR) (x_9 : Int) (c1 : Int → Option Bool) (x_19 : Bool) : Option Bool :=
 bif x_19 then
  some false
 else
  c1 (w64 (x_9 + 1))
theorem Wa (H : H21 D σ F) (x_1 : GR) (x_9 : Int) (c1 : Int → Option Bool) (Hc1 : ∀ (x_9 : Int) (s : Nat → V), zl [(1, bG 1 x_1), (2, jb false), (10, eP x_1.2), (11, ji (x_1.2.length : Int)), (12, ji x_9)] s → c1 x_9 = some r → Run D σ (R21 r) (.run Ms [.lp Ms, .bk 0, .sq zb6]) s) (x_19 : Bool) (s : Nat → V) (hs : zl [(1, bG 1 x_1), (2, jb false), (10, eP x_1.2), (11, ji (x_1.2.length : Int)), (12, ji x_9), (48, jb x_19)] s) (h : wy F x_1 x_9 c1 x_19 = some r) : Run D σ (R21 r) (.nrm [.sq zil, .bk 1, .sq zis, .lp Ms, .bk 0, .sq zb6]) s := by
 unfold wy at h
 obtain ⟨h1, h2, h10, h11, h12, h48⟩ := hs
 refine .nsq (zi (t := x_19) h48 h (fun h => ?_) (fun h => ?_))
 · refine .seq (rg (g0 (jb false) fun h2 => gq (.nsq (.ret ?_))))
   have hr := Option.some.inj h
   subst hr
   exact rrA (zf h2) rfl
 refine .skip (.nbk (.nsq (rg (g1 12 (ji (w64 (x_9 + 1))) h12 fun h49 => gm h49 fun h12 => gq (.nlp ?_)))))
 exact Hc1 (w64 (x_9 + 1)) _ ⟨h1, h2, h10, h11, h12⟩ h
def yB (F : Nat) (x_1 : GR)  : Nat → Int → Option Bool
 | 0, _ => none
 | k + 1, x_9 =>
   bif decide (x_9 < (x_1.2.length : Int)) then
    (idx x_1.2 x_9).bind fun e_16 =>
    bif decide (e_16.1 < 0) then
     wy F x_1 x_9 (yB F x_1 k) true
    else
     bif decide (e_16.1 ≥ e_16.2) then
      wy F x_1 x_9 (yB F x_1 k) true
     else
      bif decide (e_16.2 ≥ x_1.1) then
       wy F x_1 x_9 (yB F x_1 k) true
      else
       bif decide (x_9 > 0) then
        (idx x_1.2 (w64 (x_9 - 1))).bind fun e_20 =>
        (we F [e_20.1, e_20.2] [e_16.1, e_16.2]).bind fun r_21 =>
        wy F x_1 x_9 (yB F x_1 k) (decide (r_21 ≥ 0))
       else
        wy F x_1 x_9 (yB F x_1 k) false
   else
    some true
theorem zfq (H : H21 D σ F) (x_1 : GR)  : ∀ (k : Nat) (x_9 : Int) (s : Nat → V), zl [(1, bG 1 x_1), (2, jb false), (10, eP x_1.2), (11, ji (x_1.2.length : Int)), (12, ji x_9)] s → yB F x_1 k x_9 = some r → Run D σ (R21 r) (.run Ms [.lp Ms, .bk 0, .sq zb6]) s := by
 intro k
 induction k with
 | zero => intro x_9 s _ h; exact nm h
 | succ k ih =>
   intro x_9 s hs h
   rw [yB] at h
   obtain ⟨h1, h2, h10, h11, h12⟩ := hs
   refine .seq (rg (g2 12 11 (jb (decide (x_9 < (x_1.2.length : Int)))) h12 h11 fun h13 => gq (.nsq (.seq (zi (t := decide (x_9 < (x_1.2.length : Int))) h13 h (fun h => ?_) (fun h => ?_))))))
   · refine .skip (.nsq (.seq (.block (.seq (zt (zR ?_))))))
     refine ez [(1, _), (2, _), (4, _), (10, _), (11, _), (12, _)] ⟨za h1 rfl (zh rfl mIE), za h2 rfl mb, zb rfl, za h10 rfl me, za h11 rfl mi, za h12 rfl mi⟩ ?_
     rintro s ⟨h1, h2, h4, h10, h11, h12⟩
     refine gm h12 fun h14 => ?_
     obtain ⟨e_16, E_e_16, h⟩ := bind_some h
     refine gv (.ref .sh 0 [] (.agg [ji e_16.1, ji e_16.2])) (yu (t := .sh) (lo := 0) (xs := x_1.2) h10 h12 E_e_16 rfl rfl) fun h15 => g1 15 (.agg [ji e_16.1, ji e_16.2]) h15 fun h16 => xp h4 (gm h14 fun h3 => z7 (.agg [ji e_16.1, ji e_16.2]) (zy rfl rfl) (zy h16 rfl) (xR (by first | rfl | simp [V.toks, V.tokss, Enc.toks_enc, z4])) (gz [(1, bG 1 x_1), (2, jb false), (3, ji x_9), (4, .ref (.bx 4) 0 [] (.agg [ji e_16.1, ji e_16.2])), (10, eP x_1.2), (11, ji (x_1.2.length : Int)), (12, ji x_9)] ⟨zc h1 (zD rfl rfl uIE), zc h2 rfl, zc h3 rfl, zc rfl rfl, zc h10 uE, zc h11 rfl, zc h12 rfl⟩ ?_))
     rintro s ⟨h1, h2, h3, h4, h10, h11, h12⟩
     refine .nsq (.seq (rg (g1 4 (.ref (.bx 4) 0 [0] (ji e_16.1)) h4 fun h17 => g1 17 (ji e_16.1) h17 fun h18 => g1 18 (jb (decide (e_16.1 < 0))) h18 fun h19 => gm h19 fun h20 => zP (c := decide (e_16.1 < 0)) h (fun hg4 h => ?_) (fun hg4 h => ?_))))
     · iterate 5 refine ym (ct h20 hg4) ?_
       refine g2 20 25 (jb true) (ct h20 hg4) (rf (.tup [])) fun h26 => gm h26 fun h27 => ym h27 ?_
       iterate 4 refine ym h27 ?_
       refine g2 27 32 (jb true) h27 (rf (.tup [])) fun h33 => gm h33 fun h34 => ym h34 ?_
       iterate 2 refine ym h34 ?_
       iterate 9 refine Z0 rfl ?_
       refine ym h34 (g2 34 47 (jb true) h34 (rf (.tup [])) fun h48 => gz [(1, _), (2, _), (10, _), (11, _), (12, _), (48, _)] ⟨h1, h2, h10, h11, h12, h48⟩ ?_)
       rintro s ⟨h1, h2, h10, h11, h12, h48⟩
       exact Wa H x_1 x_9 (yB F x_1 k) ih true _ ⟨h1, h2, h10, h11, h12, h48⟩ h
     refine zg (ct h20 hg4) (g1 4 (.ref (.bx 4) 0 [0] (ji e_16.1)) h4 fun h21 => zg (ct h20 hg4) (g1 21 (ji e_16.1) h21 fun h22 => zg (ct h20 hg4) (g1 4 (.ref (.bx 4) 0 [1] (ji e_16.2)) h4 fun h23 => zg (ct h20 hg4) (g1 23 (ji e_16.2) h23 fun h24 => zg (ct h20 hg4) (g2 22 24 (jb (decide (e_16.1 ≥ e_16.2))) h22 h24 fun h25 => g2 20 25 (jb (decide (e_16.1 ≥ e_16.2))) (ct h20 hg4) h25 fun h26 => gm h26 fun h27 => zP (c := decide (e_16.1 ≥ e_16.2)) h (fun hg11 h => ?_) (fun hg11 h => ?_))))))
     · iterate 5 refine ym (ct h27 hg11) ?_
       refine g2 27 32 (jb true) (ct h27 hg11) (rf (.tup [])) fun h33 => gm h33 fun h34 => ym h34 ?_
       iterate 2 refine ym h34 ?_
       iterate 9 refine Z0 rfl ?_
       refine ym h34 (g2 34 47 (jb true) h34 (rf (.tup [])) fun h48 => gz [(1, _), (2, _), (10, _), (11, _), (12, _), (48, _)] ⟨h1, h2, h10, h11, h12, h48⟩ ?_)
       rintro s ⟨h1, h2, h10, h11, h12, h48⟩
       exact Wa H x_1 x_9 (yB F x_1 k) ih true _ ⟨h1, h2, h10, h11, h12, h48⟩ h
     refine zg (ct h27 hg11) (g1 4 (.ref (.bx 4) 0 [1] (ji e_16.2)) h4 fun h28 => zg (ct h27 hg11) (g1 28 (ji e_16.2) h28 fun h29 => zg (ct h27 hg11) (g1 1 (.ref (.bx 1) 0 [0] (ji x_1.1)) h1 fun h30 => zg (ct h27 hg11) (g1 30 (ji x_1.1) h30 fun h31 => zg (ct h27 hg11) (g2 29 31 (jb (decide (e_16.2 ≥ x_1.1))) h29 h31 fun h32 => g2 27 32 (jb (decide (e_16.2 ≥ x_1.1))) (ct h27 hg11) h32 fun h33 => gm h33 fun h34 => zP (c := decide (e_16.2 ≥ x_1.1)) h (fun hg18 h => ?_) (fun hg18 h => ?_))))))
     · iterate 3 refine ym (ct h34 hg18) ?_
       iterate 9 refine Z0 rfl ?_
       refine ym (ct h34 hg18) (g2 34 47 (jb true) (ct h34 hg18) (rf (.tup [])) fun h48 => gz [(1, _), (2, _), (10, _), (11, _), (12, _), (48, _)] ⟨h1, h2, h10, h11, h12, h48⟩ ?_)
       rintro s ⟨h1, h2, h10, h11, h12, h48⟩
       exact Wa H x_1 x_9 (yB F x_1 k) ih true _ ⟨h1, h2, h10, h11, h12, h48⟩ h
     refine zg (ct h34 hg18) (gm h3 fun h35 => zg (ct h34 hg18) (g1 35 (jb (decide (x_9 > 0))) h35 fun h36 => zg (ct h34 hg18) (gm h36 fun h37 => zP (c := decide (x_9 > 0)) h (fun hg21 h => ?_) (fun hg21 h => ?_))))
     · refine zg (ct h37 hg21) (g1 1 (.ref (.bx 1) 0 [1] (eP x_1.2)) h1 fun h38 => zg (ct h37 hg21) (g1 38 (eP x_1.2) h38 fun h39 => zg (ct h37 hg21) (gm h3 fun h40 => zg (ct h37 hg21) (g1 40 (ji (w64 (x_9 - 1))) h40 fun h41 => ?_))))
       obtain ⟨e_20, E_e_20, h⟩ := bind_some h
       refine zg (ct h37 hg21) (gv (.ref .sh 0 [] (.agg [ji e_20.1, ji e_20.2])) (yu (t := .sh) (lo := 0) (xs := x_1.2) h39 h41 E_e_20 rfl rfl) fun h42 => zg (ct h37 hg21) (g1 42 (eL [e_20.1, e_20.2]) h42 fun h43 => zg (ct h37 hg21) (g1 4 (zj (.bx 4) (.of ([e_16.1, e_16.2] : LI))) h4 fun h44 => ?_)))
       obtain ⟨r_21, E_r_21, h⟩ := bind_some h
       refine zg (ct h37 hg21) (zB (m := 0) (al := false) (r := Enc.enc (r_21 : Int)) [Enc.enc ([e_20.1, e_20.2] : LI), Enc.enc ([e_16.1, e_16.2] : LI)] (zd (v := eL [e_20.1, e_20.2]) h43 rfl (Enc.erase_enc ([e_20.1, e_20.2] : LI)) (zd (v := zj (.bx 4) (.of ([e_16.1, e_16.2] : LI))) h44 rfl (w3 (o := .of [e_16.1, e_16.2])) zw)) (H.c47 _ _ _ E_r_21) H.g47 rfl rfl rfl rfl (zg (ct h37 hg21) (g1 45 (jb (decide (r_21 ≥ 0))) (rf (ji r_21)) fun h46 => zg (ct h34 hg18) (g2 37 46 (jb (decide (r_21 ≥ 0))) (ct h37 hg21) h46 fun h47 => g2 34 47 (jb (decide (r_21 ≥ 0))) (ct h34 hg18) h47 fun h48 => ?_))))
       refine gz [(1, _), (2, _), (10, _), (11, _), (12, _), (48, _)] ⟨h1, h2, h10, h11, h12, h48⟩ ?_
       rintro s ⟨h1, h2, h10, h11, h12, h48⟩
       exact Wa H x_1 x_9 (yB F x_1 k) ih (decide (r_21 ≥ 0)) _ ⟨h1, h2, h10, h11, h12, h48⟩ h
     iterate 9 refine ym (ct h37 hg21) ?_
     refine zg (ct h34 hg18) (g2 37 46 (jb false) (ct h37 hg21) (rf (.tup [])) fun h47 => g2 34 47 (jb false) (ct h34 hg18) h47 fun h48 => gz [(1, _), (2, _), (10, _), (11, _), (12, _), (48, _)] ⟨h1, h2, h10, h11, h12, h48⟩ ?_)
     rintro s ⟨h1, h2, h10, h11, h12, h48⟩
     exact Wa H x_1 x_9 (yB F x_1 k) ih false _ ⟨h1, h2, h10, h11, h12, h48⟩ h
   refine .exit (.esq (.elp (.ebk (.nsq (.seq (rg (g0 (jb true) fun h2 => gq (.nsq (.ret ?_)))))))))
   have hr := Option.some.inj h
   subst hr
   exact rrA (zf h2) rfl
def xP (F : Nat) (x_1 : GR) : Option Bool :=
 (ZN F x_1.1 0 8).bind fun r_2 =>
 bif (!r_2) then
  some false
 else
  yB F x_1 F 0
theorem t21 (H : H21 D σ F) (x_1 : GR) (s : Nat → V) (hs : zl [(0, gV x_1)] s) (h : xP F x_1 = some r) : Run D σ (R21 r) (.run A21 []) s := by
 unfold xP at h
 have h0 := hs
 refine .seq (zt (zR ?_))
 refine ez [(0, _), (1, _)] ⟨za h0 rfl mIE, zb rfl⟩ ?_
 rintro s ⟨h0, h1⟩
 refine xB (gV x_1) (zy h0 rfl) h1 rfl (g0 (jb false) fun h2 => gq (.nsq (.seq (.seq (rg (g1 1 (.ref (.bx 1) 0 [0] (ji x_1.1)) (rf (bG 1 x_1)) fun h5 => g1 5 (ji x_1.1) h5 fun h6 => ?_))))))
 obtain ⟨r_2, E_r_2, h⟩ := bind_some h
 refine zB (m := 0) (al := false) (r := Enc.enc (r_2 : Bool)) [Enc.enc (x_1.1 : Int), Enc.enc (0 : Int), Enc.enc (8 : Int)] (zd (v := ji x_1.1) h6 rfl rfl (zd (v := ji 0) rfl rfl rfl (zd (v := ji 8) rfl rfl rfl zw))) (H.c46 _ _ _ _ E_r_2) H.g46 rfl rfl rfl rfl (g1 7 (jb (!r_2)) (rf (jb r_2)) fun h8 => gq (.nsq (zi (t := (!r_2)) h8 h (fun h => ?_) (fun h => ?_))))
 · refine .seq (rg (g0 (jb false) fun h2 => gq (.nsq (.ret ?_))))
   have hr := Option.some.inj h
   subst hr
   exact rrA (zf h2) rfl
 refine .skip (.nsq (.seq (.seq (rg (g1 1 (.ref (.bx 1) 0 [1] (eP x_1.2)) (rf (bG 1 x_1)) fun h9 => g1 9 (eP x_1.2) h9 fun h10 => gv (ji (x_1.2.length : Int)) (yo (xs := x_1.2) h10) fun h11 => g0 (ji 0) fun h12 => gq (.nsq (.block (.loop ?_))))))))
 exact zfq H x_1 F 0 _ ⟨rfl, h2, h10, h11, h12⟩ h
end
def e21 (F : Nat) : Ent := ent 21 (fun (x : (GR × Unit)) => xP F x.1) (fun (r : Bool) => (Enc.enc (r : Bool))) 0 false []
abbrev C21 (D : List V → Option V) (F : Nat) : Prop := ∀ (x0 : GR) r, xP F x0 = some r → D [Enc.enc x0] = some (Enc.enc (r : Bool))
theorem p21 {F : Nat} : C21 (e21 F).den F := fun x0 _ h => zJ (x0, ()) h
theorem o21 {D : Den} {σ : Sig} {F : Nat} (hF : zu Try.prog D σ) (H : H21 D σ F) : (e21 F).Ok Try.prog := by
 refine yd (f := 21) (show unk 21 = 21 from rfl) (fun args r h => ?_) ⟨Try.f21, Try.func21, rfl, rfl⟩
 obtain ⟨⟨x0, _⟩, y, rfl, hy, rfl⟩ := zH h
 exact zk hF (by kernel_rfl) Try.func21 rfl c21 (show 1 ≤ Try.f21.ntmps by decide) (t21 H x0 _ rfl hy)
def zmN : AC := (.cond (.t 19) (.seq (.reg [] [jv 6 (.mov kf)] []) .ret) .skip)
def zpr : AC := (.seq (.reg [] [jm 15 8, jm 16 1, jm 17 2, jx 18 (.call (jf 46) [.t 15, .t 16, .t 17]), jv 19 (.un .not (.t 18))] []) zmN)
def zor : AC := (.reg [] [jv 20 (.bin .add (.t 11) (jn 1)), jm 11 20] [])
def zoY : AC := (.seq (.block 1 (.seq (.reg [] [jv 13 (.idx (.t 9) (.t 11) 1), jv 14 (.load .s (.t 13)), jm 8 14] []) zpr)) zor)
def zok : AC := (.seq (.cond (.t 12) .skip (.exit 0)) zoY)
def zgd : AC := (.seq (.reg [] [jv 12 (.bin .lss (.t 11) (.t 10))] []) zok)
def zim : AC := (.seq (.reg [] [jv 6 (.mov kt)] []) .ret)
def znf : AC := (.block 0 (.loop zgd))
def zo3 : AC := (.seq (.seq (.reg [] [jm 9 0, jv 10 (.len (.t 9)), jv 11 (.mov (jn 0))] []) znf) zim)
def A48 : AC := (.seq (.reg [] [jv 6 (.mov kf)] []) zo3)
def zqw : List An := []
theorem c48 : cC Try.prog Try.f48.ntmps zqw (Try.f48.body.getD .skip) = some A48 := by kernel_rfl
structure H48 (D : Den) (σ : Sig) (F : Nat) : Prop where
 c46 : C46 (D 46) F
 g46 : σ 46 = some (0, false)
abbrev R48 (r : Bool) : (Nat → V) → Prop := RR Try.prog [.tmp 6] 0 false (Enc.enc (r : Bool))
section
variable {D : Den} {σ : Sig} {F : Nat} {r : Bool}
def xa (F : Nat) (x_2 : Int) (x_3 : Int) (x_1 : LI)  : Nat → Int → Option Bool
 | 0, _ => none
 | k + 1, x_6 =>
   bif decide (x_6 < (x_1.length : Int)) then
    (idx x_1 x_6).bind fun e_9 =>
    (ZN F e_9 x_2 x_3).bind fun r_10 =>
    bif (!r_10) then
     some false
    else
     (xa F x_2 x_3 x_1 k) (w64 (x_6 + 1))
   else
    some true
theorem zez (H : H48 D σ F) (x_2 : Int) (x_3 : Int) (x_1 : LI)  : ∀ (k : Nat) (x_6 : Int) (s : Nat → V), zl [(1, ji x_2), (2, ji x_3), (6, jb false), (9, eL x_1), (10, ji (x_1.length : Int)), (11, ji x_6)] s → xa F x_2 x_3 x_1 k x_6 = some r → Run D σ (R48 r) (.run zgd [.lp zgd, .bk 0, .sq zim]) s := by
 intro k
 induction k with
 | zero => intro x_6 s _ h; exact nm h
 | succ k ih =>
   intro x_6 s hs h
   rw [xa] at h
   obtain ⟨h1, h2, h6, h9, h10, h11⟩ := hs
   refine .seq (rg (g2 11 10 (jb (decide (x_6 < (x_1.length : Int)))) h11 h10 fun h12 => gq (.nsq (.seq (zi (t := decide (x_6 < (x_1.length : Int))) h12 h (fun h => ?_) (fun h => ?_))))))
   · refine .skip (.nsq (.seq (.block (.seq (rg ?_)))))
     obtain ⟨e_9, E_e_9, h⟩ := bind_some h
     refine gv (.ref .sh 0 [] (ji e_9)) (yu (t := .sh) (lo := 0) (xs := x_1) h9 h11 E_e_9 rfl rfl) fun h13 => g1 13 (ji e_9) h13 fun h14 => gm h14 fun h8 => gq (.nsq (.seq (rg (gm h8 fun h15 => gm h1 fun h16 => gm h2 fun h17 => ?_))))
     obtain ⟨r_10, E_r_10, h⟩ := bind_some h
     refine zB (m := 0) (al := false) (r := Enc.enc (r_10 : Bool)) [Enc.enc (e_9 : Int), Enc.enc (x_2 : Int), Enc.enc (x_3 : Int)] (zd (v := ji e_9) h15 rfl rfl (zd (v := ji x_2) h16 rfl rfl (zd (v := ji x_3) h17 rfl rfl zw))) (H.c46 _ _ _ _ E_r_10) H.g46 rfl rfl rfl rfl (g1 18 (jb (!r_10)) (rf (jb r_10)) fun h19 => gq (.nsq (zi (t := (!r_10)) h19 h (fun h => ?_) (fun h => ?_))))
     · refine .seq (rg (g0 (jb false) fun h6 => gq (.nsq (.ret ?_))))
       have hr := Option.some.inj h
       subst hr
       exact rrA (zf h6) rfl
     refine .skip (.nbk (.nsq (rg (g1 11 (ji (w64 (x_6 + 1))) h11 fun h20 => gm h20 fun h11 => gq (.nlp ?_)))))
     exact ih (w64 (x_6 + 1)) _ ⟨h1, h2, h6, h9, h10, h11⟩ h
   refine .exit (.esq (.elp (.ebk (.nsq (.seq (rg (g0 (jb true) fun h6 => gq (.nsq (.ret ?_)))))))))
   have hr := Option.some.inj h
   subst hr
   exact rrA (zf h6) rfl
def wv (F : Nat) (x_1 : LI) (x_2 : Int) (x_3 : Int) : Option Bool :=
 xa F x_2 x_3 x_1 F 0
theorem t48 (H : H48 D σ F) (x_1 : LI) (x_2 : Int) (x_3 : Int) (s : Nat → V) (hs : zl [(0, eL x_1), (1, ji x_2), (2, ji x_3)] s) (h : wv F x_1 x_2 x_3 = some r) : Run D σ (R48 r) (.run A48 []) s := by
 unfold wv at h
 obtain ⟨h0, h1, h2⟩ := hs
 refine .seq (rg (g0 (jb false) fun h6 => gq (.nsq (.seq (.seq (rg (gm h0 fun h9 => gv (ji (x_1.length : Int)) (yo (xs := x_1) h9) fun h10 => g0 (ji 0) fun h11 => gq (.nsq (.block (.loop ?_))))))))))
 exact zez H x_2 x_3 x_1 F 0 _ ⟨h1, h2, h6, h9, h10, h11⟩ h
end
def e48 (F : Nat) : Ent := ent 48 (fun (x : (LI × Int × Int × Unit)) => wv F x.1 x.2.1 x.2.2.1) (fun (r : Bool) => (Enc.enc (r : Bool))) 0 false []
abbrev C48 (D : List V → Option V) (F : Nat) : Prop := ∀ (x0 : LI) (x1 : Int) (x2 : Int) r, wv F x0 x1 x2 = some r → D [Enc.enc x0, Enc.enc x1, Enc.enc x2] = some (Enc.enc (r : Bool))
theorem p48 {F : Nat} : C48 (e48 F).den F := fun x0 x1 x2 _ h => zJ (x0, x1, x2, ()) h
theorem o48 {D : Den} {σ : Sig} {F : Nat} (hF : zu Try.prog D σ) (H : H48 D σ F) : (e48 F).Ok Try.prog := by
 refine yd (f := 48) (show unk 48 = 48 from rfl) (fun args r h => ?_) ⟨Try.f48, Try.func48, rfl, rfl⟩
 obtain ⟨⟨x0, x1, x2, _⟩, y, rfl, hy, rfl⟩ := zH h
 exact zk hF (by kernel_rfl) Try.func48 rfl c48 (show 3 ≤ Try.f48.ntmps by decide) (t48 H x0 x1 x2 _ ⟨rfl, rfl, rfl⟩ hy)
def zoU : AC := (.reg [] [jm 12 3, jm 13 5, jv 14 (.bin .shl (jn 1) (.t 13)), jv 15 (.bin .or (.t 12) (.t 14)), jm 3 15] [])
def zm3 : AC := (.reg [] [jv 16 (.bin .add (.t 8) (jn 1)), jm 8 16] [])
def znH : AC := (.seq (.block 1 (.seq (.reg [] [jv 10 (.idx (.t 6) (.t 8) 1), jv 11 (.load .s (.t 10)), jm 5 11] []) zoU)) zm3)
def zmv : AC := (.seq (.cond (.t 9) .skip (.exit 0)) znH)
def zeu : AC := (.seq (.reg [] [jv 9 (.bin .lss (.t 8) (.t 7))] []) zmv)
def zio : AC := (.seq (.reg [] [jm 17 3, jm 2 17] []) .ret)
def zo5 : AC := (.block 0 (.loop zeu))
def zk2 : AC := (.seq (.seq (.reg [] [jm 6 0, jv 7 (.len (.t 6)), jv 8 (.mov (jn 0))] []) zo5) zio)
def zo1 : AC := (.seq (.reg [] [jv 3 (.mov (jn 0))] []) zk2)
def A42 : AC := (.seq (.reg [] [jv 2 (.mov (jn 0))] []) zo1)
def zrn : List An := []
theorem c42 : cC Try.prog Try.f42.ntmps zrn (Try.f42.body.getD .skip) = some A42 := by kernel_rfl
structure H42 (D : Den) (σ : Sig) (F : Nat) : Prop where
 mk ::
abbrev R42 (r : Int) : (Nat → V) → Prop := RR Try.prog [.tmp 2] 0 false (Enc.enc (r : Int))
section
variable {D : Den} {σ : Sig} {F : Nat} {r : Int}
def wT (F : Nat) (x_1 : LI)  : Nat → Int → Int → Option Int
 | 0, _, _ => none
 | k + 1, x_4, x_5 =>
   bif decide (x_5 < (x_1.length : Int)) then
    (idx x_1 x_5).bind fun e_8 =>
    (ZW .i64 1 e_8).bind fun q_9 =>
    (wT F x_1 k) (ior .i64 x_4 q_9) (w64 (x_5 + 1))
   else
    some x_4
theorem zgy (H : H42 D σ F) (x_1 : LI)  : ∀ (k : Nat) (x_4 : Int) (x_5 : Int) (s : Nat → V), zl [(2, ji 0), (3, ji x_4), (6, eL x_1), (7, ji (x_1.length : Int)), (8, ji x_5)] s → wT F x_1 k x_4 x_5 = some r → Run D σ (R42 r) (.run zeu [.lp zeu, .bk 0, .sq zio]) s := by
 intro k
 induction k with
 | zero => intro x_4 x_5 s _ h; exact nm h
 | succ k ih =>
   intro x_4 x_5 s hs h
   rw [wT] at h
   obtain ⟨h2, h3, h6, h7, h8⟩ := hs
   refine .seq (rg (g2 8 7 (jb (decide (x_5 < (x_1.length : Int)))) h8 h7 fun h9 => gq (.nsq (.seq (zi (t := decide (x_5 < (x_1.length : Int))) h9 h (fun h => ?_) (fun h => ?_))))))
   · refine .skip (.nsq (.seq (.block (.seq (rg ?_)))))
     obtain ⟨e_8, E_e_8, h⟩ := bind_some h
     refine gv (.ref .sh 0 [] (ji e_8)) (yu (t := .sh) (lo := 0) (xs := x_1) h6 h8 E_e_8 rfl rfl) fun h10 => g1 10 (ji e_8) h10 fun h11 => gm h11 fun h5 => gq (.nsq (rg (gm h3 fun h12 => gm h5 fun h13 => ?_)))
     obtain ⟨q_9, E_q_9, h⟩ := bind_some h
     refine gv (ji q_9) (v9 rfl h13 E_q_9) fun h14 => g2 12 14 (ji (ior .i64 x_4 q_9)) h12 h14 fun h15 => gm h15 fun h3 => gq (.nbk (.nsq (rg (g1 8 (ji (w64 (x_5 + 1))) h8 fun h16 => gm h16 fun h8 => gq (.nlp ?_)))))
     exact ih (ior .i64 x_4 q_9) (w64 (x_5 + 1)) _ ⟨h2, h3, h6, h7, h8⟩ h
   refine .exit (.esq (.elp (.ebk (.nsq (.seq (rg (gm h3 fun h17 => gm h17 fun h2 => gq (.nsq (.ret ?_)))))))))
   have hr := Option.some.inj h
   subst hr
   exact rrA (zf h2) rfl
def ub (F : Nat) (x_1 : LI) : Option Int :=
 wT F x_1 F 0 0
theorem t42 (H : H42 D σ F) (x_1 : LI) (s : Nat → V) (hs : zl [(0, eL x_1)] s) (h : ub F x_1 = some r) : Run D σ (R42 r) (.run A42 []) s := by
 unfold ub at h
 have h0 := hs
 refine .seq (rg (g0 (ji 0) fun h2 => gq (.nsq (.seq (rg (g0 (ji 0) fun h3 => gq (.nsq (.seq (.seq (rg (gm h0 fun h6 => gv (ji (x_1.length : Int)) (yo (xs := x_1) h6) fun h7 => g0 (ji 0) fun h8 => gq (.nsq (.block (.loop ?_))))))))))))))
 exact zgy H x_1 F 0 0 _ ⟨h2, h3, h6, h7, h8⟩ h
end
def e42 (F : Nat) : Ent := ent 42 (fun (x : (LI × Unit)) => ub F x.1) (fun (r : Int) => (Enc.enc (r : Int))) 0 false []
abbrev C42 (D : List V → Option V) (F : Nat) : Prop := ∀ (x0 : LI) r, ub F x0 = some r → D [Enc.enc x0] = some (Enc.enc (r : Int))
theorem p42 {F : Nat} : C42 (e42 F).den F := fun x0 _ h => zJ (x0, ()) h
theorem o42 {D : Den} {σ : Sig} {F : Nat} (hF : zu Try.prog D σ) (H : H42 D σ F) : (e42 F).Ok Try.prog := by
 refine yd (f := 42) (show unk 42 = 42 from rfl) (fun args r h => ?_) ⟨Try.f42, Try.func42, rfl, rfl⟩
 obtain ⟨⟨x0, _⟩, y, rfl, hy, rfl⟩ := zH h
 exact zk hF (by kernel_rfl) Try.func42 rfl c42 (show 1 ≤ Try.f42.ntmps by decide) (t42 H x0 _ rfl hy)
def zlj : AC := (.seq (.reg [] [jm 5 1, jv 6 (.len (.t 5)), jv 7 (.fld (.t 2) 0 0), jv 8 (.load .s (.t 7)), jv 9 (.bin .eql (.t 6) (.t 8)), jm 10 9, jg 11 10 true (.mov (.t 1)), jg 12 10 true (.fld (.t 2) 0 0), jg 13 10 true (.load .s (.t 12)), jg 14 10 true (.bin .sub (.t 13) (jn 1)), .mk (some 15) (some (10, true)) false (.call (jf 48) [.t 11, jn 0, .t 14]), jv 16 (.pick (.t 10) (.t 15) kf), jm 17 16, jg 18 17 true (.mov (.t 1)), .mk (some 19) (some (17, true)) false (.call (jf 42) [.t 18]), jg 20 17 true (.fld (.t 2) 0 0), jg 21 17 true (.load .s (.t 20)), jg 22 17 true (.bin .shl (jn 1) (.t 21)), jg 23 17 true (.bin .sub (.t 22) (jn 1)), jg 24 17 true (.bin .eql (.t 19) (.t 23)), jv 25 (.pick (.t 17) (.t 24) kf), jm 4 25] []) .ret)
def A22 : AC := (.seq (.reg [.clr [2]] [jx 2 (.box (.t 0)), jv 4 (.mov kf)] []) zlj)
def zrE : List An := [⟨0, [.clr [2]], [], [], []⟩]
theorem c22 : cC Try.prog Try.f22.ntmps zrE (Try.f22.body.getD .skip) = some A22 := by kernel_rfl
structure H22 (D : Den) (σ : Sig) (F : Nat) : Prop where
 c48 : C48 (D 48) F
 g48 : σ 48 = some (0, false)
 c42 : C42 (D 42) F
 g42 : σ 42 = some (0, false)
abbrev R22 (r : Bool) : (Nat → V) → Prop := RR Try.prog [.tmp 4] 0 false (Enc.enc (r : Bool))
section
variable {D : Den} {σ : Sig} {F : Nat} {r : Bool}
def vS (F : Nat) (x_1 : GR) (x_2 : LI) : Option Bool :=
 bif ((x_2.length : Int) == x_1.1) then
  (wv F x_2 0 (w64 (x_1.1 - 1))).bind fun r_3 =>
  bif r_3 then
   (ub F x_2).bind fun r_4 =>
   (ZW .i64 1 x_1.1).bind fun q_5 =>
   some (r_4 == (w64 (q_5 - 1)))
  else
   some false
 else
  some false
theorem t22 (H : H22 D σ F) (x_1 : GR) (x_2 : LI) (s : Nat → V) (hs : zl [(0, gV x_1), (1, eL x_2)] s) (h : vS F x_1 x_2 = some r) : Run D σ (R22 r) (.run A22 []) s := by
 unfold vS at h
 obtain ⟨h0, h1⟩ := hs
 refine .seq (zt (zR ?_))
 refine ez [(0, _), (1, _), (2, _)] ⟨za h0 rfl mIE, za h1 rfl me, zb rfl⟩ ?_
 rintro s ⟨h0, h1, h2⟩
 refine xB (gV x_1) (zy h0 rfl) h2 rfl (g0 (jb false) fun h4 => gq (.nsq (.seq (rg (gm h1 fun h5 => gv (ji (x_2.length : Int)) (yo (xs := x_2) h5) fun h6 => g1 2 (.ref (.bx 2) 0 [0] (ji x_1.1)) (rf (bG 2 x_1)) fun h7 => g1 7 (ji x_1.1) h7 fun h8 => g2 6 8 (jb ((x_2.length : Int) == x_1.1)) h6 h8 fun h9 => gm h9 fun h10 => zP (c := ((x_2.length : Int) == x_1.1)) h (fun hg6 h => ?_) (fun hg6 h => ?_))))))
 · refine zg (ct h10 hg6) (gm h1 fun h11 => zg (ct h10 hg6) (g1 2 (.ref (.bx 2) 0 [0] (ji x_1.1)) (rf (bG 2 x_1)) fun h12 => zg (ct h10 hg6) (g1 12 (ji x_1.1) h12 fun h13 => zg (ct h10 hg6) (g1 13 (ji (w64 (x_1.1 - 1))) h13 fun h14 => ?_))))
   obtain ⟨r_3, E_r_3, h⟩ := bind_some h
   refine zg (ct h10 hg6) (zB (m := 0) (al := false) (r := Enc.enc (r_3 : Bool)) [eL x_2, Enc.enc (0 : Int), Enc.enc (w64 (x_1.1 - 1) : Int)] (zd (v := eL x_2) h11 rfl (Enc.erase_enc (x_2 : LI)) (zd (v := ji 0) rfl rfl rfl (zd (v := ji (w64 (x_1.1 - 1))) h14 rfl rfl zw))) (H.c48 _ _ _ _ E_r_3) H.g48 rfl rfl rfl rfl (g2 10 15 (jb r_3) (ct h10 hg6) (rf (jb r_3)) fun h16 => gm h16 fun h17 => zP (c := r_3) h (fun hg13 h => ?_) (fun hg13 h => ?_)))
   · refine zg (ct h17 hg13) (gm h1 fun h18 => ?_)
     obtain ⟨r_4, E_r_4, h⟩ := bind_some h
     refine zg (ct h17 hg13) (zB (m := 0) (al := false) (r := Enc.enc (r_4 : Int)) [eL x_2] (zd (v := eL x_2) h18 rfl (Enc.erase_enc (x_2 : LI)) zw) (H.c42 _ _ E_r_4) H.g42 rfl rfl rfl rfl (zg (ct h17 hg13) (g1 2 (.ref (.bx 2) 0 [0] (ji x_1.1)) (rf (bG 2 x_1)) fun h20 => zg (ct h17 hg13) (g1 20 (ji x_1.1) h20 fun h21 => ?_))))
     obtain ⟨q_5, E_q_5, h⟩ := bind_some h
     refine zg (ct h17 hg13) (gv (ji q_5) (v9 rfl h21 E_q_5) fun h22 => zg (ct h17 hg13) (g1 22 (ji (w64 (q_5 - 1))) h22 fun h23 => zg (ct h17 hg13) (g2 19 23 (jb (r_4 == (w64 (q_5 - 1)))) (rf (ji r_4)) h23 fun h24 => g2 17 24 (jb (r_4 == (w64 (q_5 - 1)))) (ct h17 hg13) h24 fun h25 => gm h25 fun h4 => gq (.nsq (.ret ?_)))))
     have hr := Option.some.inj h
     subst hr
     exact rrA (zf h4) rfl
   iterate 7 refine ym (ct h17 hg13) ?_
   refine g2 17 24 (jb false) (ct h17 hg13) (rf (.tup [])) fun h25 => gm h25 fun h4 => gq (.nsq (.ret ?_))
   have hr := Option.some.inj h
   subst hr
   exact rrA (zf h4) rfl
 iterate 5 refine ym (ct h10 hg6) ?_
 refine g2 10 15 (jb false) (ct h10 hg6) (rf (.tup [])) fun h16 => gm h16 fun h17 => ym h17 ?_
 iterate 6 refine ym h17 ?_
 refine g2 17 24 (jb false) h17 (rf (.tup [])) fun h25 => gm h25 fun h4 => gq (.nsq (.ret ?_))
 have hr := Option.some.inj h
 subst hr
 exact rrA (zf h4) rfl
end
def e22 (F : Nat) : Ent := ent 22 (fun (x : (GR × LI × Unit)) => vS F x.1 x.2.1) (fun (r : Bool) => (Enc.enc (r : Bool))) 0 false []
abbrev C22 (D : List V → Option V) (F : Nat) : Prop := ∀ (x0 : GR) (x1 : LI) r, vS F x0 x1 = some r → D [Enc.enc x0, Enc.enc x1] = some (Enc.enc (r : Bool))
theorem p22 {F : Nat} : C22 (e22 F).den F := fun x0 x1 _ h => zJ (x0, x1, ()) h
theorem o22 {D : Den} {σ : Sig} {F : Nat} (hF : zu Try.prog D σ) (H : H22 D σ F) : (e22 F).Ok Try.prog := by
 refine yd (f := 22) (show unk 22 = 22 from rfl) (fun args r h => ?_) ⟨Try.f22, Try.func22, rfl, rfl⟩
 obtain ⟨⟨x0, x1, _⟩, y, rfl, hy, rfl⟩ := zH h
 exact zk hF (by kernel_rfl) Try.func22 rfl c22 (show 2 ≤ Try.f22.ntmps by decide) (t22 H x0 x1 _ ⟨rfl, rfl⟩ hy)
def zln : AC := (.reg [] [jv 28 (.fld (.t 3) 0 0), jv 29 (.load .p (.t 28)), jv 30 (.idxA (.t 5) (jn 1) 2 1), jv 31 (.load .s (.t 30)), jv 32 (.idx (.t 29) (.t 31) 1), jv 33 (.load .s (.t 32)), jv 34 (.idxA (.t 5) (jn 0) 2 1), jv 35 (.load .s (.t 34)), jv 36 (.bin .shl (jn 1) (.t 35)), jv 37 (.bin .or (.t 33) (.t 36)), jv 38 (.idx (.t 29) (.t 31) 1), jz (.store .s (.t 38) (.t 37))] [])
def zoR : AC := (.seq (.reg [] [jv 17 (.fld (.t 3) 0 0), jv 18 (.load .p (.t 17)), jv 19 (.idxA (.t 5) (jn 0) 2 1), jv 20 (.load .s (.t 19)), jv 21 (.idx (.t 18) (.t 20) 1), jv 22 (.load .s (.t 21)), jv 23 (.idxA (.t 5) (jn 1) 2 1), jv 24 (.load .s (.t 23)), jv 25 (.bin .shl (jn 1) (.t 24)), jv 26 (.bin .or (.t 22) (.t 25)), jv 27 (.idx (.t 18) (.t 20) 1), jz (.store .s (.t 27) (.t 26))] []) zln)
def zoC : AC := (.reg [] [jv 39 (.bin .add (.t 13) (jn 1)), jm 13 39] [])
def zlE : AC := (.seq (.block 1 (.seq (.reg [.clr [5]] [jv 15 (.idx (.t 11) (.t 13) 2), jv 16 (.load (.ag [.s, .s]) (.t 15)), jx 5 (.alloc (.agg [i0, i0])), jz (.store (.ag [.s, .s]) (.t 5) (.t 16))] []) zoR)) zoC)
def zlt : AC := (.seq (.cond (.t 14) .skip (.exit 0)) zlE)
def zgl : AC := (.seq (.reg [] [jv 14 (.bin .lss (.t 13) (.t 12))] []) zlt)
def zh4 : AC := (.seq (.reg [] [jv 40 (.load (.ag [.p]) (.t 3)), jz (.store (.ag [.p]) (.t 2) (.t 40))] []) .ret)
def zj4 : AC := (.block 0 (.loop zgl))
def znW : AC := (.seq (.seq (.reg [] [jv 10 (.fld (.t 1) 1 1), jv 11 (.load .p (.t 10)), jv 12 (.len (.t 11)), jv 13 (.mov (jn 0))] []) zj4) zh4)
def zmB : AC := (.seq (.reg [.clr [8, 3]] [jv 6 (.fld (.t 1) 0 0), jv 7 (.load .s (.t 6)), jx 8 (.mk (.t 7) i0 i0), jv 9 (.bld (.agg [.sl .nl .s 0 []]) [(0, 0, .t 8)]), jx 3 (.alloc (.agg [.sl .nl .s 0 []])), jz (.store (.ag [.p]) (.t 3) (.t 9))] []) znW)
def A23 : AC := (.seq (.reg [.clr [1, 2]] [jx 1 (.box (.t 0)), jx 2 (.alloc (.agg [.sl .nl .s 0 []]))] []) zmB)
def zrG : List An := [⟨0, [.clr [1, 2]], [], [], []⟩, ⟨1, [.clr [8, 3]], [], [], []⟩, ⟨4, [.clr [5]], [], [], []⟩]
theorem c23 : cC Try.prog Try.f23.ntmps zrG (Try.f23.body.getD .skip) = some A23 := by kernel_rfl
structure H23 (D : Den) (σ : Sig) (F : Nat) : Prop where
 mk ::
abbrev R23 (r : (S1 LI)) : (Nat → V) → Prop := RR Try.prog [.cell 2 42] 0 false (Enc.enc (r : (S1 LI)))
section
variable {D : Den} {σ : Sig} {F : Nat} {r : (S1 LI)}
def uv (F : Nat) (x_1 : GR)  : Nat → LI → Int → Option (S1 LI)
 | 0, _, _ => none
 | k + 1, x_10, x_11 =>
   bif decide (x_11 < (x_1.2.length : Int)) then
    (idx x_1.2 x_11).bind fun e_19 =>
    (idx x_10 e_19.1).bind fun e_20 =>
    (ZW .i64 1 e_19.2).bind fun q_21 =>
    (idx x_10 e_19.1).bind fun e_22 =>
    (idx (x_10.set e_19.1.toNat (ior .i64 e_20 q_21)) e_19.2).bind fun e_23 =>
    (ZW .i64 1 e_19.1).bind fun q_24 =>
    (idx (x_10.set e_19.1.toNat (ior .i64 e_20 q_21)) e_19.2).bind fun e_25 =>
    (uv F x_1 k) ((x_10.set e_19.1.toNat (ior .i64 e_20 q_21)).set e_19.2.toNat (ior .i64 e_23 q_24)) (w64 (x_11 + 1))
   else
    some (S1.mk x_10)
theorem zfU (H : H23 D σ F) (x_1 : GR)  : ∀ (k : Nat) (x_10 : LI) (x_11 : Int) (s : Nat → V), zl [(2, .ref (.bx 2) 0 [] (.agg [nI])), (3, .ref (.bx 3) 0 [] (.agg [oI 8 [] (.of x_10)])), (11, eP x_1.2), (12, ji (x_1.2.length : Int)), (13, ji x_11)] s → uv F x_1 k x_10 x_11 = some r → Run D σ (R23 r) (.run zgl [.lp zgl, .bk 0, .sq zh4]) s := by
 intro k
 induction k with
 | zero => intro x_10 x_11 s _ h; exact nm h
 | succ k ih =>
   intro x_10 x_11 s hs h
   rw [uv] at h
   obtain ⟨h2, h3, h11, h12, h13⟩ := hs
   refine .seq (rg (g2 13 12 (jb (decide (x_11 < (x_1.2.length : Int)))) h13 h12 fun h14 => gq (.nsq (.seq (zi (t := decide (x_11 < (x_1.2.length : Int))) h14 h (fun h => ?_) (fun h => ?_))))))
   · refine .skip (.nsq (.seq (.block (.seq (zt (zR ?_))))))
     refine ez [(2, _), (3, _), (5, _), (11, _), (12, _), (13, _)] ⟨za h2 rfl (zh rfl (zF (ze rfl zn))), za h3 rfl (zh rfl (zF (ze (zm (r := 8) (p := []) rfl rfl) zn))), zb rfl, za h11 rfl me, za h12 rfl mi, za h13 rfl mi⟩ ?_
     rintro s ⟨h2, h3, h5, h11, h12, h13⟩
     obtain ⟨e_19, E_e_19, h⟩ := bind_some h
     refine gv (.ref .sh 0 [] (.agg [ji e_19.1, ji e_19.2])) (yu (t := .sh) (lo := 0) (xs := x_1.2) h11 h13 E_e_19 rfl rfl) fun h15 => g1 15 (.agg [ji e_19.1, ji e_19.2]) h15 fun h16 => xp h5 (z7 (.agg [ji e_19.1, ji e_19.2]) (zy rfl rfl) (zy h16 rfl) (xR (by first | rfl | simp [V.toks, V.tokss, Enc.toks_enc, z4])) ?_)
     refine gz [(2, .ref (.bx 2) 0 [] (.agg [nI])), (3, .ref (.bx 3) 0 [] (.agg [oI 8 [] (.of x_10)])), (5, .ref (.bx 5) 0 [] (.agg [ji e_19.1, ji e_19.2])), (11, eP x_1.2), (12, ji (x_1.2.length : Int)), (13, ji x_11)] ⟨zc h2 (zD rfl rfl (yp (zq rfl rfl))), zc h3 (zD rfl rfl (yp (zq (wX rfl rfl) rfl))), zc rfl rfl, zc h11 uE, zc h12 rfl, zc h13 rfl⟩ ?_
     rintro s ⟨h2, h3, h5, h11, h12, h13⟩
     refine .nsq (.seq (rg (g1 3 (.ref (.bx 3) 0 [0] (oI 8 [] (.of x_10))) h3 fun h17 => g1 17 (oI 8 [] (.of x_10)) h17 fun h18 => g1 5 (.ref (.bx 5) 0 [0] (ji e_19.1)) h5 fun h19 => g1 19 (ji e_19.1) h19 fun h20 => ?_)))
     obtain ⟨e_20, E_e_20, h⟩ := bind_some h
     refine gv (.ref (.at 8 []) e_19.1.toNat [] (ji e_20)) (vo (o := .of x_10) h18 h20 E_e_20 rfl) fun h21 => g1 21 (ji e_20) h21 fun h22 => g1 5 (.ref (.bx 5) 0 [1] (ji e_19.2)) h5 fun h23 => g1 23 (ji e_19.2) h23 fun h24 => ?_
     obtain ⟨q_21, E_q_21, h⟩ := bind_some h
     refine gv (ji q_21) (v9 rfl h24 E_q_21) fun h25 => g2 22 25 (ji (ior .i64 e_20 q_21)) h22 h25 fun h26 => ?_
     obtain ⟨e_22, E_e_22, h⟩ := bind_some h
     refine gv (.ref (.at 8 []) e_19.1.toNat [] (ji e_22)) (vo (o := .of x_10) h18 h20 E_e_22 rfl) fun h27 => z7 (ji (ior .i64 e_20 q_21)) (zy h27 rfl) (zy h26 rfl) (xR (by first | rfl | simp [V.toks, V.tokss, Enc.toks_enc, z4])) ?_
     refine gz [(2, .ref (.bx 2) 0 [] (.agg [nI])), (3, .ref (.bx 3) 0 [] (.agg [oI 8 [] (.of (x_10.set e_19.1.toNat (ior .i64 e_20 q_21)))])), (5, .ref (.bx 5) 0 [] (.agg [ji e_19.1, ji e_19.2])), (11, eP x_1.2), (12, ji (x_1.2.length : Int)), (13, ji x_11)] ⟨zc h2 (zD rfl rfl (yp (zq rfl rfl))), zc h3 (zD rfl rfl (yp (zq WG rfl))), zc h5 rfl, zc h11 uE, zc h12 rfl, zc h13 rfl⟩ ?_
     rintro s ⟨h2, h3, h5, h11, h12, h13⟩
     refine .nsq (rg (g1 3 (.ref (.bx 3) 0 [0] (oI 8 [] (.of (x_10.set e_19.1.toNat (ior .i64 e_20 q_21))))) h3 fun h28 => g1 28 (oI 8 [] (.of (x_10.set e_19.1.toNat (ior .i64 e_20 q_21)))) h28 fun h29 => g1 5 (.ref (.bx 5) 0 [1] (ji e_19.2)) h5 fun h30 => g1 30 (ji e_19.2) h30 fun h31 => ?_))
     obtain ⟨e_23, E_e_23, h⟩ := bind_some h
     refine gv (.ref (.at 8 []) e_19.2.toNat [] (ji e_23)) (vo (o := .of (x_10.set e_19.1.toNat (ior .i64 e_20 q_21))) h29 h31 E_e_23 rfl) fun h32 => g1 32 (ji e_23) h32 fun h33 => g1 5 (.ref (.bx 5) 0 [0] (ji e_19.1)) h5 fun h34 => g1 34 (ji e_19.1) h34 fun h35 => ?_
     obtain ⟨q_24, E_q_24, h⟩ := bind_some h
     refine gv (ji q_24) (v9 rfl h35 E_q_24) fun h36 => g2 33 36 (ji (ior .i64 e_23 q_24)) h33 h36 fun h37 => ?_
     obtain ⟨e_25, E_e_25, h⟩ := bind_some h
     refine gv (.ref (.at 8 []) e_19.2.toNat [] (ji e_25)) (vo (o := .of (x_10.set e_19.1.toNat (ior .i64 e_20 q_21))) h29 h31 E_e_25 rfl) fun h38 => z7 (ji (ior .i64 e_23 q_24)) (zy h38 rfl) (zy h37 rfl) (xR (by first | rfl | simp [V.toks, V.tokss, Enc.toks_enc, z4])) ?_
     refine gz [(2, .ref (.bx 2) 0 [] (.agg [nI])), (3, .ref (.bx 3) 0 [] (.agg [oI 8 [] (.of ((x_10.set e_19.1.toNat (ior .i64 e_20 q_21)).set e_19.2.toNat (ior .i64 e_23 q_24)))])), (11, eP x_1.2), (12, ji (x_1.2.length : Int)), (13, ji x_11)] ⟨zc h2 (zD rfl rfl (yp (zq rfl rfl))), zc h3 (zD rfl rfl (yp (zq WG rfl))), zc h11 uE, zc h12 rfl, zc h13 rfl⟩ ?_
     rintro s ⟨h2, h3, h11, h12, h13⟩
     refine .nbk (.nsq (rg (g1 13 (ji (w64 (x_11 + 1))) h13 fun h39 => gm h39 fun h13 => gq (.nlp ?_))))
     exact ih ((x_10.set e_19.1.toNat (ior .i64 e_20 q_21)).set e_19.2.toNat (ior .i64 e_23 q_24)) (w64 (x_11 + 1)) _ ⟨h2, h3, h11, h12, h13⟩ h
   refine .exit (.esq (.elp (.ebk (.nsq (.seq (rg (g1 3 (.agg [oI 8 [] (.of x_10)]) h3 fun h40 => z7 (.agg [oI 8 [] (.of x_10)]) (zy h2 rfl) (zy h40 rfl) (xR (by first | rfl | simp [V.toks, V.tokss, Enc.toks_enc, z4])) (gz [(2, .ref (.bx 2) 0 [] (.agg [oI 8 [] (.of x_10)]))] (zc h2 rfl) ?_))))))))
   rintro s h2
   refine .nsq (.ret ?_)
   have hr := Option.some.inj h
   subst hr
   exact rrA (wI h2 (by kernel_rfl)) (ug (zhb (zY (wz (o := .of x_10)) xv)) (Uu (xe (wn rfl) uP)))
def vp (F : Nat) (x_1 : GR) : Option (S1 LI) :=
 (mkN x_1.1 (0 : Int)).bind fun mk_2 =>
 uv F x_1 F mk_2 0
theorem t23 (H : H23 D σ F) (x_1 : GR) (s : Nat → V) (hs : zl [(0, gV x_1)] s) (h : vp F x_1 = some r) : Run D σ (R23 r) (.run A23 []) s := by
 unfold vp at h
 have h0 := hs
 refine .seq (zt (zR ?_))
 refine ez [(0, _), (1, _), (2, _)] ⟨za h0 rfl mIE, zb rfl, zb rfl⟩ ?_
 rintro s ⟨h0, h1, h2⟩
 refine xB (gV x_1) (zy h0 rfl) h1 rfl (xp h2 (gq (.nsq (.seq (zt (zR ?_))))))
 refine ez [(1, _), (2, _), (3, _), (8, _)] ⟨za rfl rfl (zh rfl mIE), za rfl rfl (zh rfl (zF (ze rfl zn))), zb rfl, zb rfl⟩ ?_
 rintro s ⟨h1, h2, h3, h8⟩
 refine g1 1 (.ref (.bx 1) 0 [0] (ji x_1.1)) h1 fun h6 => g1 6 (ji x_1.1) h6 fun h7 => ?_
 obtain ⟨mk_2, E_mk_2, h⟩ := bind_some h
 refine zhD (0 : Int) h7 rfl h8 E_mk_2 (g1 8 (.agg [oI 8 [] (.of mk_2)]) (rf (oI 8 [] (.of mk_2))) fun h9 => xp h3 (z7 (.agg [oI 8 [] (.of mk_2)]) (zy rfl rfl) (zy h9 rfl) (xR (by first | rfl | simp [V.toks, V.tokss, Enc.toks_enc, z4])) (gz [(1, bG 1 x_1), (2, .ref (.bx 2) 0 [] (.agg [nI])), (3, .ref (.bx 3) 0 [] (.agg [oI 8 [] (.of mk_2)]))] ⟨zc h1 (zD rfl rfl uIE), zc h2 (zD rfl rfl (yp (zq rfl rfl))), zc rfl rfl⟩ ?_)))
 rintro s ⟨h1, h2, h3⟩
 refine .nsq (.seq (.seq (rg (g1 1 (.ref (.bx 1) 0 [1] (eP x_1.2)) h1 fun h10 => g1 10 (eP x_1.2) h10 fun h11 => gv (ji (x_1.2.length : Int)) (yo (xs := x_1.2) h11) fun h12 => g0 (ji 0) fun h13 => gq (.nsq (.block (.loop ?_)))))))
 exact zfU H x_1 F mk_2 0 _ ⟨h2, h3, h11, h12, h13⟩ h
end
def e23 (F : Nat) : Ent := ent 23 (fun (x : (GR × Unit)) => vp F x.1) (fun (r : (S1 LI)) => (Enc.enc (r : (S1 LI)))) 0 false []
abbrev C23 (D : List V → Option V) (F : Nat) : Prop := ∀ (x0 : GR) r, vp F x0 = some r → D [Enc.enc x0] = some (Enc.enc (r : (S1 LI)))
theorem p23 {F : Nat} : C23 (e23 F).den F := fun x0 _ h => zJ (x0, ()) h
theorem o23 {D : Den} {σ : Sig} {F : Nat} (hF : zu Try.prog D σ) (H : H23 D σ F) : (e23 F).Ok Try.prog := by
 refine yd (f := 23) (show unk 23 = 23 from rfl) (fun args r h => ?_) ⟨Try.f23, Try.func23, rfl, rfl⟩
 obtain ⟨⟨x0, _⟩, y, rfl, hy, rfl⟩ := zH h
 exact zk hF (by kernel_rfl) Try.func23 rfl c23 (show 1 ≤ Try.f23.ntmps by decide) (t23 H x0 _ rfl hy)
def zo8 : AC := (.cond (.t 8) .skip (.exit 0))
def znB : AC := (.cond (.t 15) (.reg [.clr [18, 19]] [jm 16 3, jm 17 4, jx 18 (.lit i0 1 [(0, 0, .t 17)]), jx 19 (.app .s (.t 16) (.t 18)), jm 3 19] [.home 19 3]) .skip)
def ziM : AC := (.reg [] [jm 9 4, jv 10 (.bin .add (.t 9) (jn 1)), jm 4 10] [])
def zlD : AC := (.seq (.block 1 (.seq (.reg [] [jm 11 0, jm 12 4, jv 13 (.bin .shr (.t 11) (.t 12)), jv 14 (.bin .and (.t 13) (jn 1)), jv 15 (.bin .eql (.t 14) (jn 1))] []) znB)) ziM)
def Mg : AC := (.seq (.seq (.reg [] [jm 5 0, jm 6 4, jv 7 (.bin .shr (.t 5) (.t 6)), jv 8 (.bin .neq (.t 7) (jn 0))] []) zo8) zlD)
def zcz : AC := (.seq (.reg [] [jm 20 3, jm 2 20] [.home 3 2]) .ret)
def znq : AC := (.block 0 (.loop Mg))
def znk : AC := (.seq (.seq (.reg [] [jv 4 (.mov (jn 0))] []) znq) zcz)
def zn5 : AC := (.seq (.reg [] [jv 3 (.mov (.k (.sl .nl .s 0 [])))] []) znk)
def A41 : AC := (.seq (.reg [] [jv 2 (.mov (.k (.sl .nl .s 0 [])))] []) zn5)
def zrz : List An := [⟨6, [.clr [18, 19]], [], [], [.home 19 3]⟩, ⟨7, [], [], [], [.home 3 2]⟩]
theorem c41 : cC Try.prog Try.f41.ntmps zrz (Try.f41.body.getD .skip) = some A41 := by kernel_rfl
structure H41 (D : Den) (σ : Sig) (F : Nat) : Prop where
 mk ::
abbrev R41 (r : LI) : (Nat → V) → Prop := RR Try.prog [.tmp 2] 0 false (eL r)
section
variable {D : Den} {σ : Sig} {F : Nat} {r : LI}
def Zt (F : Nat) (x_1 : Int) (x_8 : Int) (c1 : (NL Int) → Int → Option LI) (x_17 : (NL Int)) : Option LI :=
 c1 x_17 (w64 (x_8 + 1))
theorem QL (H : H41 D σ F) (x_1 : Int) (x_8 : Int) (c1 : (NL Int) → Int → Option LI) (Hc1 : ∀ (x_7 : (NL Int)) (x_8 : Int) (s : Nat → V), zl [(0, ji x_1), (2, nI), (3, oI 3 [] x_7), (4, ji x_8)] s → c1 x_7 x_8 = some r → Run D σ (R41 r) (.run Mg [.lp Mg, .bk 0, .sq zcz]) s) (x_17 : (NL Int)) (s : Nat → V) (hs : zl [(0, ji x_1), (2, nI), (3, oI 3 [] x_17), (4, ji x_8)] s) (h : Zt F x_1 x_8 c1 x_17 = some r) : Run D σ (R41 r) (.nrm [.bk 1, .sq ziM, .lp Mg, .bk 0, .sq zcz]) s := by
 unfold Zt at h
 obtain ⟨h0, h2, h3, h4⟩ := hs
 refine .nbk (.nsq (rg (gm h4 fun h9 => g1 9 (ji (w64 (x_8 + 1))) h9 fun h10 => gm h10 fun h4 => gq (.nlp ?_))))
 exact Hc1 x_17 (w64 (x_8 + 1)) _ ⟨h0, h2, h3, h4⟩ h
def xS (F : Nat) (x_1 : Int)  : Nat → (NL Int) → Int → Option LI
 | 0, _, _ => none
 | k + 1, x_7, x_8 =>
   (Z6 .i64 x_1 x_8).bind fun q_14 =>
   bif (q_14 != 0) then
    (Z6 .i64 x_1 x_8).bind fun q_15 =>
    bif ((z6 .i64 q_15 1) == 1) then
     (wM x_7.list [x_8]).bind fun ap_18 =>
     Zt F x_1 x_8 (xS F x_1 k) (.of ap_18)
    else
     Zt F x_1 x_8 (xS F x_1 k) x_7
   else
    some x_7.list
theorem zeD (H : H41 D σ F) (x_1 : Int)  : ∀ (k : Nat) (x_7 : (NL Int)) (x_8 : Int) (s : Nat → V), zl [(0, ji x_1), (2, nI), (3, oI 3 [] x_7), (4, ji x_8)] s → xS F x_1 k x_7 x_8 = some r → Run D σ (R41 r) (.run Mg [.lp Mg, .bk 0, .sq zcz]) s := by
 intro k
 induction k with
 | zero => intro x_7 x_8 s _ h; exact nm h
 | succ k ih =>
   intro x_7 x_8 s hs h
   rw [xS] at h
   obtain ⟨h0, h2, h3, h4⟩ := hs
   refine .seq (.seq (rg (gm h0 fun h5 => gm h4 fun h6 => ?_)))
   obtain ⟨q_14, E_q_14, h⟩ := bind_some h
   refine gv (ji q_14) (ua h5 h6 E_q_14) fun h7 => g1 7 (jb (q_14 != 0)) h7 fun h8 => gq (.nsq (zi (t := (q_14 != 0)) h8 h (fun h => ?_) (fun h => ?_)))
   · refine .skip (.nsq (.seq (.block (.seq (rg (gm h0 fun h11 => gm h4 fun h12 => ?_))))))
     obtain ⟨q_15, E_q_15, h⟩ := bind_some h
     refine gv (ji q_15) (ua h11 h12 E_q_15) fun h13 => g1 13 (ji (z6 .i64 q_15 1)) h13 fun h14 => g1 14 (jb ((z6 .i64 q_15 1) == 1)) h14 fun h15 => gq (.nsq (zi (t := ((z6 .i64 q_15 1) == 1)) h15 h (fun h => ?_) (fun h => ?_)))
     · refine zt (zR ?_)
       refine ez [(0, _), (2, _), (3, _), (4, _), (18, _), (19, _)] ⟨za h0 rfl mi, za h2 rfl rfl, za h3 rfl (zm (r := 3) (p := []) rfl rfl), za h4 rfl mi, zb rfl, zb rfl⟩ ?_
       rintro s ⟨h0, h2, h3, h4, h18, h19⟩
       refine gv (oI 3 [] x_7) (Yl h3 vW) fun h16 => gm h4 fun h17 => xf [(17, ji x_8)] [Enc.enc (x_8 : Int)] h17 rfl rfl h18 ?_
       obtain ⟨ap_18, E_ap_18, h⟩ := bind_some h
       refine XZ (q := 3) (p := []) (o := (x_7 : NL Int)) (ys := ([x_8] : LI)) (t2 := .at 18 []) (lo2 := 0) h16 rfl rfl h19 (ZV (o := (x_7 : NL Int)) E_ap_18 (by split <;> simp)) (fun s_17 ha_17 => gm (rf (oI 19 [] (.of ap_18))) fun h3 => yE (yq (r := 19) (x := 3) (v := _) h3 rfl (fun s_18 hg_18 => ?_)))
       refine ez [(0, ji x_1), (2, nI), (3, oI 3 [] (.of ap_18)), (4, ji x_8)] ⟨hg_18 0 _ _ (show s_17 0 = (ji x_1) from zU ha_17 h0 mi) mi, hg_18 2 _ nI (show s_17 2 = nI from zU ha_17 h2 rfl) rfl, hg_18 3 _ _ h3 (zm (r := 19) (p := []) rfl rfl), hg_18 4 _ _ (show s_17 4 = (ji x_8) from zU ha_17 h4 mi) mi⟩ ?_
       rintro s ⟨h0, h2, h3, h4⟩
       exact QL H x_1 x_8 (xS F x_1 k) ih (.of ap_18) _ ⟨h0, h2, h3, h4⟩ h
     refine .skip ?_
     exact QL H x_1 x_8 (xS F x_1 k) ih x_7 _ ⟨h0, h2, h3, h4⟩ h
   refine .exit (.esq (.elp (.ebk (.nsq (.seq (rg (gv (oI 3 [] x_7) (Yl h3 vW) fun h20 => gv (oI 3 [] x_7) (Yl h20 vW) fun h2 => yE (yq (r := 3) (x := 2) (v := _) h2 vW (fun s_19 hg_19 => ?_)))))))))
   refine ez [(2, oI 2 [] x_7)] (hg_19 2 _ _ h2 (zm (r := 3) (p := []) rfl rfl)) ?_
   rintro s h2
   refine .nsq (.ret ?_)
   have hr := Option.some.inj h
   subst hr
   exact rrA (zf h2) (ug (wz (o := x_7)) (wn rfl))
def uk (F : Nat) (x_1 : Int) : Option LI :=
 xS F x_1 F .nil 0
theorem t41 (H : H41 D σ F) (x_1 : Int) (s : Nat → V) (hs : zl [(0, ji x_1)] s) (h : uk F x_1 = some r) : Run D σ (R41 r) (.run A41 []) s := by
 unfold uk at h
 have h0 := hs
 refine .seq (rg (g0 nI fun h2 => gq (.nsq (.seq (rg (g0 nI fun h3 => gq (.nsq (.seq (.seq (rg (g0 (ji 0) fun h4 => gq (.nsq (.block (.loop ?_))))))))))))))
 exact zeD H x_1 F .nil 0 _ ⟨h0, h2, h3, h4⟩ h
end
def e41 (F : Nat) : Ent := ent 41 (fun (x : (Int × Unit)) => uk F x.1) (fun (r : LI) => (eL r)) 0 false []
abbrev C41 (D : List V → Option V) (F : Nat) : Prop := ∀ (x0 : Int) r, uk F x0 = some r → D [Enc.enc x0] = some (eL r)
theorem p41 {F : Nat} : C41 (e41 F).den F := fun x0 _ h => zJ (x0, ()) h
theorem o41 {D : Den} {σ : Sig} {F : Nat} (hF : zu Try.prog D σ) (H : H41 D σ F) : (e41 F).Ok Try.prog := by
 refine yd (f := 41) (show unk 41 = 41 from rfl) (fun args r h => ?_) ⟨Try.f41, Try.func41, rfl, rfl⟩
 obtain ⟨⟨x0, _⟩, y, rfl, hy, rfl⟩ := zH h
 exact zk hF (by kernel_rfl) Try.func41 rfl c41 (show 1 ≤ Try.f41.ntmps by decide) (t41 H x0 _ rfl hy)
def znl : AC := (.cond (.t 22) (.reg [] [jm 23 5, jm 24 7, jv 25 (.bin .shl (jn 1) (.t 24)), jv 26 (.bin .or (.t 23) (.t 25)), jm 5 26] []) .skip)
def zlN : AC := (.seq (.reg [] [jv 15 (.fld (.t 2) 0 0), jv 16 (.load .p (.t 15)), jm 17 7, jv 18 (.idx (.t 16) (.t 17) 1), jv 19 (.load .s (.t 18)), jm 20 1, jv 21 (.bin .andNot (.t 19) (.t 20)), jv 22 (.bin .neq (.t 21) (jn 0))] []) znl)
def zih : AC := (.reg [] [jv 27 (.bin .add (.t 11) (jn 1)), jm 11 27] [])
def znd : AC := (.seq (.block 1 (.seq (.reg [] [jv 13 (.idx (.t 9) (.t 11) 1), jv 14 (.load .s (.t 13)), jm 7 14] []) zlN)) zih)
def zmD : AC := (.seq (.cond (.t 12) .skip (.exit 0)) znd)
def Me : AC := (.seq (.reg [] [jv 12 (.bin .lss (.t 11) (.t 10))] []) zmD)
def zcg : AC := (.seq (.reg [] [jm 28 5, jm 4 28] []) .ret)
def ziT : AC := (.block 0 (.loop Me))
def zpu : AC := (.seq (.seq (.reg [] [jm 8 1, jx 9 (.call (jf 41) [.t 8]), jv 10 (.len (.t 9)), jv 11 (.mov (jn 0))] []) ziT) zcg)
def zo4 : AC := (.seq (.reg [] [jv 5 (.mov (jn 0))] []) zpu)
def A36 : AC := (.seq (.reg [.clr [2]] [jx 2 (.box (.t 0)), jv 4 (.mov (jn 0))] []) zo4)
def zqX : List An := [⟨0, [.clr [2]], [], [], []⟩]
theorem c36 : cC Try.prog Try.f36.ntmps zqX (Try.f36.body.getD .skip) = some A36 := by kernel_rfl
structure H36 (D : Den) (σ : Sig) (F : Nat) : Prop where
 c41 : C41 (D 41) F
 g41 : σ 41 = some (0, false)
abbrev R36 (r : Int) : (Nat → V) → Prop := RR Try.prog [.tmp 4] 0 false (Enc.enc (r : Int))
section
variable {D : Den} {σ : Sig} {F : Nat} {r : Int}
def vy (F : Nat) (x_2 : Int) (x_1 : (S1 LI)) (r_3 : LI) (x_10 : Int) (c1 : Int → Int → Option Int) (x_19 : Int) : Option Int :=
 c1 x_19 (w64 (x_10 + 1))
theorem zal (H : H36 D σ F) (x_2 : Int) (x_1 : (S1 LI)) (r_3 : LI) (x_10 : Int) (c1 : Int → Int → Option Int) (Hc1 : ∀ (x_9 : Int) (x_10 : Int) (s : Nat → V), zl [(1, ji x_2), (2, .ref (.bx 2) 0 [] (.agg [eL x_1.a])), (4, ji 0), (5, ji x_9), (9, eL r_3), (10, ji (r_3.length : Int)), (11, ji x_10)] s → c1 x_9 x_10 = some r → Run D σ (R36 r) (.run Me [.lp Me, .bk 0, .sq zcg]) s) (x_19 : Int) (s : Nat → V) (hs : zl [(1, ji x_2), (2, .ref (.bx 2) 0 [] (.agg [eL x_1.a])), (4, ji 0), (5, ji x_19), (9, eL r_3), (10, ji (r_3.length : Int)), (11, ji x_10)] s) (h : vy F x_2 x_1 r_3 x_10 c1 x_19 = some r) : Run D σ (R36 r) (.nrm [.bk 1, .sq zih, .lp Me, .bk 0, .sq zcg]) s := by
 unfold vy at h
 obtain ⟨h1, h2, h4, h5, h9, h10, h11⟩ := hs
 refine .nbk (.nsq (rg (g1 11 (ji (w64 (x_10 + 1))) h11 fun h27 => gm h27 fun h11 => gq (.nlp ?_))))
 exact Hc1 x_19 (w64 (x_10 + 1)) _ ⟨h1, h2, h4, h5, h9, h10, h11⟩ h
def y9 (F : Nat) (x_2 : Int) (x_1 : (S1 LI)) (r_3 : LI)  : Nat → Int → Int → Option Int
 | 0, _, _ => none
 | k + 1, x_9, x_10 =>
   bif decide (x_10 < (r_3.length : Int)) then
    (idx r_3 x_10).bind fun e_16 =>
    (idx x_1.a e_16).bind fun e_17 =>
    bif ((wC .i64 e_17 x_2) != 0) then
     (ZW .i64 1 e_16).bind fun q_20 =>
     vy F x_2 x_1 r_3 x_10 (y9 F x_2 x_1 r_3 k) (ior .i64 x_9 q_20)
    else
     vy F x_2 x_1 r_3 x_10 (y9 F x_2 x_1 r_3 k) x_9
   else
    some x_9
theorem zeC (H : H36 D σ F) (x_2 : Int) (x_1 : (S1 LI)) (r_3 : LI)  : ∀ (k : Nat) (x_9 : Int) (x_10 : Int) (s : Nat → V), zl [(1, ji x_2), (2, .ref (.bx 2) 0 [] (.agg [eL x_1.a])), (4, ji 0), (5, ji x_9), (9, eL r_3), (10, ji (r_3.length : Int)), (11, ji x_10)] s → y9 F x_2 x_1 r_3 k x_9 x_10 = some r → Run D σ (R36 r) (.run Me [.lp Me, .bk 0, .sq zcg]) s := by
 intro k
 induction k with
 | zero => intro x_9 x_10 s _ h; exact nm h
 | succ k ih =>
   intro x_9 x_10 s hs h
   rw [y9] at h
   obtain ⟨h1, h2, h4, h5, h9, h10, h11⟩ := hs
   refine .seq (rg (g2 11 10 (jb (decide (x_10 < (r_3.length : Int)))) h11 h10 fun h12 => gq (.nsq (.seq (zi (t := decide (x_10 < (r_3.length : Int))) h12 h (fun h => ?_) (fun h => ?_))))))
   · refine .skip (.nsq (.seq (.block (.seq (rg ?_)))))
     obtain ⟨e_16, E_e_16, h⟩ := bind_some h
     refine gv (.ref .sh 0 [] (ji e_16)) (yu (t := .sh) (lo := 0) (xs := r_3) h9 h11 E_e_16 rfl rfl) fun h13 => g1 13 (ji e_16) h13 fun h14 => gm h14 fun h7 => gq (.nsq (.seq (rg (g1 2 (.ref (.bx 2) 0 [0] (eL x_1.a)) h2 fun h15 => g1 15 (eL x_1.a) h15 fun h16 => gm h7 fun h17 => ?_))))
     obtain ⟨e_17, E_e_17, h⟩ := bind_some h
     refine gv (.ref .sh 0 [] (ji e_17)) (yu (t := .sh) (lo := 0) (xs := x_1.a) h16 h17 E_e_17 rfl rfl) fun h18 => g1 18 (ji e_17) h18 fun h19 => gm h1 fun h20 => g2 19 20 (ji (wC .i64 e_17 x_2)) h19 h20 fun h21 => g1 21 (jb ((wC .i64 e_17 x_2) != 0)) h21 fun h22 => gq (.nsq (zi (t := ((wC .i64 e_17 x_2) != 0)) h22 h (fun h => ?_) (fun h => ?_)))
     · refine rg (gm h5 fun h23 => gm h7 fun h24 => ?_)
       obtain ⟨q_20, E_q_20, h⟩ := bind_some h
       refine gv (ji q_20) (v9 rfl h24 E_q_20) fun h25 => g2 23 25 (ji (ior .i64 x_9 q_20)) h23 h25 fun h26 => gm h26 fun h5 => gq ?_
       exact zal H x_2 x_1 r_3 x_10 (y9 F x_2 x_1 r_3 k) ih (ior .i64 x_9 q_20) _ ⟨h1, h2, h4, h5, h9, h10, h11⟩ h
     refine .skip ?_
     exact zal H x_2 x_1 r_3 x_10 (y9 F x_2 x_1 r_3 k) ih x_9 _ ⟨h1, h2, h4, h5, h9, h10, h11⟩ h
   refine .exit (.esq (.elp (.ebk (.nsq (.seq (rg (gm h5 fun h28 => gm h28 fun h4 => gq (.nsq (.ret ?_)))))))))
   have hr := Option.some.inj h
   subst hr
   exact rrA (zf h4) rfl
def x9 (F : Nat) (x_1 : (S1 LI)) (x_2 : Int) : Option Int :=
 (uk F x_2).bind fun r_3 =>
 y9 F x_2 x_1 r_3 F 0 0
theorem t36 (H : H36 D σ F) (x_1 : (S1 LI)) (x_2 : Int) (s : Nat → V) (hs : zl [(0, .agg [eL x_1.a]), (1, ji x_2)] s) (h : x9 F x_1 x_2 = some r) : Run D σ (R36 r) (.run A36 []) s := by
 unfold x9 at h
 obtain ⟨h0, h1⟩ := hs
 refine .seq (zt (zR ?_))
 refine ez [(0, _), (1, _), (2, _)] ⟨za h0 rfl (zF (ze me zn)), za h1 rfl mi, zb rfl⟩ ?_
 rintro s ⟨h0, h1, h2⟩
 refine xB (.agg [eL x_1.a]) (zy h0 rfl) h2 rfl (g0 (ji 0) fun h4 => gq (.nsq (.seq (rg (g0 (ji 0) fun h5 => gq (.nsq (.seq (.seq (rg (gm h1 fun h8 => ?_))))))))))
 obtain ⟨r_3, E_r_3, h⟩ := bind_some h
 refine zB (m := 0) (al := false) (r := eL r_3) [Enc.enc (x_2 : Int)] (zd (v := ji x_2) h8 rfl rfl zw) (H.c41 _ _ E_r_3) H.g41 rfl rfl rfl rfl (gv (ji (r_3.length : Int)) (yo (xs := r_3) rfl) fun h10 => g0 (ji 0) fun h11 => gq (.nsq (.block (.loop ?_))))
 exact zeC H x_2 x_1 r_3 F 0 0 _ ⟨h1, rfl, h4, h5, rfl, h10, h11⟩ h
end
def e36 (F : Nat) : Ent := ent 36 (fun (x : ((S1 LI) × Int × Unit)) => x9 F x.1 x.2.1) (fun (r : Int) => (Enc.enc (r : Int))) 0 false []
abbrev C36 (D : List V → Option V) (F : Nat) : Prop := ∀ (x0 : (S1 LI)) (x1 : Int) r, x9 F x0 x1 = some r → D [Enc.enc x0, Enc.enc x1] = some (Enc.enc (r : Int))
theorem p36 {F : Nat} : C36 (e36 F).den F := fun x0 x1 _ h => zJ (x0, x1, ()) h
theorem o36 {D : Den} {σ : Sig} {F : Nat} (hF : zu Try.prog D σ) (H : H36 D σ F) : (e36 F).Ok Try.prog := by
 refine yd (f := 36) (show unk 36 = 36 from rfl) (fun args r h => ?_) ⟨Try.f36, Try.func36, rfl, rfl⟩
 obtain ⟨⟨x0, x1, _⟩, y, rfl, hy, rfl⟩ := zH h
 exact zk hF (by kernel_rfl) Try.func36 rfl c36 (show 2 ≤ Try.f36.ntmps by decide) (t36 H x0 x1 _ ⟨rfl, rfl⟩ hy)
def zoV : AC := (.seq (.reg [] [jm 32 0, jv 33 (.conv .i64 (.t 32)), jv 34 (.bin .and (.t 33) (jn 127)), jm 2 34] []) .ret)
def zpA : AC := (.seq (.reg [] [jm 28 0, jm 29 0, jv 30 (.bin .shr (.t 29) (.k (.int .u64 (.ofNat 32)))), jv 31 (.bin .add (.t 28) (.t 30)), jm 0 31] []) zoV)
def zov : AC := (.seq (.reg [] [jm 24 0, jm 25 0, jv 26 (.bin .shr (.t 25) (.k (.int .u64 (.ofNat 16)))), jv 27 (.bin .add (.t 24) (.t 26)), jm 0 27] []) zpA)
def znF : AC := (.seq (.reg [] [jm 20 0, jm 21 0, jv 22 (.bin .shr (.t 21) (.k (.int .u64 (.ofNat 8)))), jv 23 (.bin .add (.t 20) (.t 22)), jm 0 23] []) zov)
def zmG : AC := (.seq (.reg [] [jm 15 0, jv 16 (.bin .shr (.t 15) (.k (.int .u64 (.ofNat 4)))), jm 17 0, jv 18 (.bin .add (.t 16) (.t 17)), jv 19 (.bin .and (.t 18) (.k (.int .u64 (.ofNat 1085102592571150095)))), jm 0 19] []) znF)
def zpa : AC := (.seq (.reg [] [jm 9 0, jv 10 (.bin .shr (.t 9) (.k (.int .u64 (.ofNat 2)))), jv 11 (.bin .and (.t 10) (.k (.int .u64 (.ofNat 3689348814741910323)))), jm 12 0, jv 13 (.bin .and (.t 12) (.k (.int .u64 (.ofNat 3689348814741910323)))), jv 14 (.bin .add (.t 11) (.t 13)), jm 0 14] []) zmG)
def zom : AC := (.seq (.reg [] [jm 3 0, jv 4 (.bin .shr (.t 3) (.k (.int .u64 (.ofNat 1)))), jv 5 (.bin .and (.t 4) (.k (.int .u64 (.ofNat 6148914691236517205)))), jm 6 0, jv 7 (.bin .and (.t 6) (.k (.int .u64 (.ofNat 6148914691236517205)))), jv 8 (.bin .add (.t 5) (.t 7)), jm 0 8] []) zpa)
def A59 : AC := (.seq (.reg [] [jv 2 (.mov (jn 0))] []) zom)
def zql : List An := []
theorem c59 : cC Try.prog Try.f59.ntmps zql (Try.f59.body.getD .skip) = some A59 := by kernel_rfl
structure H59 (D : Den) (σ : Sig) (F : Nat) : Prop where
 mk ::
abbrev R59 (r : Int) : (Nat → V) → Prop := RR Try.prog [.tmp 2] 0 false (Enc.enc (r : Int))
section
variable {D : Den} {σ : Sig} {F : Nat} {r : Int}
def wO (F : Nat) (x_1 : (Kd .u64)) : Option Int :=
 (Z6 .u64 x_1.v 1).bind fun q_2 =>
 (Z6 .u64 (IntKind.u64.wrap ((z6 .u64 q_2 6148914691236517205) + (z6 .u64 x_1.v 6148914691236517205))) 2).bind fun q_3 =>
 (Z6 .u64 (IntKind.u64.wrap ((z6 .u64 q_3 3689348814741910323) + (z6 .u64 (IntKind.u64.wrap ((z6 .u64 q_2 6148914691236517205) + (z6 .u64 x_1.v 6148914691236517205))) 3689348814741910323))) 4).bind fun q_4 =>
 (Z6 .u64 (z6 .u64 (IntKind.u64.wrap (q_4 + (IntKind.u64.wrap ((z6 .u64 q_3 3689348814741910323) + (z6 .u64 (IntKind.u64.wrap ((z6 .u64 q_2 6148914691236517205) + (z6 .u64 x_1.v 6148914691236517205))) 3689348814741910323))))) 1085102592571150095) 8).bind fun q_5 =>
 (Z6 .u64 (IntKind.u64.wrap ((z6 .u64 (IntKind.u64.wrap (q_4 + (IntKind.u64.wrap ((z6 .u64 q_3 3689348814741910323) + (z6 .u64 (IntKind.u64.wrap ((z6 .u64 q_2 6148914691236517205) + (z6 .u64 x_1.v 6148914691236517205))) 3689348814741910323))))) 1085102592571150095) + q_5)) 16).bind fun q_6 =>
 (Z6 .u64 (IntKind.u64.wrap ((IntKind.u64.wrap ((z6 .u64 (IntKind.u64.wrap (q_4 + (IntKind.u64.wrap ((z6 .u64 q_3 3689348814741910323) + (z6 .u64 (IntKind.u64.wrap ((z6 .u64 q_2 6148914691236517205) + (z6 .u64 x_1.v 6148914691236517205))) 3689348814741910323))))) 1085102592571150095) + q_5)) + q_6)) 32).bind fun q_7 =>
 some (z6 .i64 (w64 (IntKind.u64.wrap ((IntKind.u64.wrap ((IntKind.u64.wrap ((z6 .u64 (IntKind.u64.wrap (q_4 + (IntKind.u64.wrap ((z6 .u64 q_3 3689348814741910323) + (z6 .u64 (IntKind.u64.wrap ((z6 .u64 q_2 6148914691236517205) + (z6 .u64 x_1.v 6148914691236517205))) 3689348814741910323))))) 1085102592571150095) + q_5)) + q_6)) + q_7))) 127)
theorem t59 (H : H59 D σ F) (x_1 : (Kd .u64)) (s : Nat → V) (hs : zl [(0, .int .u64 x_1.v)] s) (h : wO F x_1 = some r) : Run D σ (R59 r) (.run A59 []) s := by
 unfold wO at h
 have h0 := hs
 refine .seq (rg (g0 (ji 0) fun h2 => gq (.nsq (.seq (rg (gm h0 fun h3 => ?_))))))
 obtain ⟨q_2, E_q_2, h⟩ := bind_some h
 refine gv (.int .u64 q_2) (ua h3 rfl E_q_2) fun h4 => g1 4 (.int .u64 (z6 .u64 q_2 6148914691236517205)) h4 fun h5 => gm h0 fun h6 => g1 6 (.int .u64 (z6 .u64 x_1.v 6148914691236517205)) h6 fun h7 => g2 5 7 (.int .u64 (IntKind.u64.wrap ((z6 .u64 q_2 6148914691236517205) + (z6 .u64 x_1.v 6148914691236517205)))) h5 h7 fun h8 => gm h8 fun h0 => gq (.nsq (.seq (rg (gm h0 fun h9 => ?_))))
 obtain ⟨q_3, E_q_3, h⟩ := bind_some h
 refine gv (.int .u64 q_3) (ua h9 rfl E_q_3) fun h10 => g1 10 (.int .u64 (z6 .u64 q_3 3689348814741910323)) h10 fun h11 => gm h0 fun h12 => g1 12 (.int .u64 (z6 .u64 (IntKind.u64.wrap ((z6 .u64 q_2 6148914691236517205) + (z6 .u64 x_1.v 6148914691236517205))) 3689348814741910323)) h12 fun h13 => g2 11 13 (.int .u64 (IntKind.u64.wrap ((z6 .u64 q_3 3689348814741910323) + (z6 .u64 (IntKind.u64.wrap ((z6 .u64 q_2 6148914691236517205) + (z6 .u64 x_1.v 6148914691236517205))) 3689348814741910323)))) h11 h13 fun h14 => gm h14 fun h0 => gq (.nsq (.seq (rg (gm h0 fun h15 => ?_))))
 obtain ⟨q_4, E_q_4, h⟩ := bind_some h
 refine gv (.int .u64 q_4) (ua h15 rfl E_q_4) fun h16 => gm h0 fun h17 => g2 16 17 (.int .u64 (IntKind.u64.wrap (q_4 + (IntKind.u64.wrap ((z6 .u64 q_3 3689348814741910323) + (z6 .u64 (IntKind.u64.wrap ((z6 .u64 q_2 6148914691236517205) + (z6 .u64 x_1.v 6148914691236517205))) 3689348814741910323)))))) h16 h17 fun h18 => g1 18 (.int .u64 (z6 .u64 (IntKind.u64.wrap (q_4 + (IntKind.u64.wrap ((z6 .u64 q_3 3689348814741910323) + (z6 .u64 (IntKind.u64.wrap ((z6 .u64 q_2 6148914691236517205) + (z6 .u64 x_1.v 6148914691236517205))) 3689348814741910323))))) 1085102592571150095)) h18 fun h19 => gm h19 fun h0 => gq (.nsq (.seq (rg (gm h0 fun h20 => gm h0 fun h21 => ?_))))
 obtain ⟨q_5, E_q_5, h⟩ := bind_some h
 refine gv (.int .u64 q_5) (ua h21 rfl E_q_5) fun h22 => g2 20 22 (.int .u64 (IntKind.u64.wrap ((z6 .u64 (IntKind.u64.wrap (q_4 + (IntKind.u64.wrap ((z6 .u64 q_3 3689348814741910323) + (z6 .u64 (IntKind.u64.wrap ((z6 .u64 q_2 6148914691236517205) + (z6 .u64 x_1.v 6148914691236517205))) 3689348814741910323))))) 1085102592571150095) + q_5))) h20 h22 fun h23 => gm h23 fun h0 => gq (.nsq (.seq (rg (gm h0 fun h24 => gm h0 fun h25 => ?_))))
 obtain ⟨q_6, E_q_6, h⟩ := bind_some h
 refine gv (.int .u64 q_6) (ua h25 rfl E_q_6) fun h26 => g2 24 26 (.int .u64 (IntKind.u64.wrap ((IntKind.u64.wrap ((z6 .u64 (IntKind.u64.wrap (q_4 + (IntKind.u64.wrap ((z6 .u64 q_3 3689348814741910323) + (z6 .u64 (IntKind.u64.wrap ((z6 .u64 q_2 6148914691236517205) + (z6 .u64 x_1.v 6148914691236517205))) 3689348814741910323))))) 1085102592571150095) + q_5)) + q_6))) h24 h26 fun h27 => gm h27 fun h0 => gz [(0, _), (2, _)] ⟨h0, h2⟩ ?_
 rintro s ⟨h0, h2⟩
 refine .nsq (.seq (rg (gm h0 fun h28 => gm h0 fun h29 => ?_)))
 obtain ⟨q_7, E_q_7, h⟩ := bind_some h
 refine gv (.int .u64 q_7) (ua h29 rfl E_q_7) fun h30 => g2 28 30 (.int .u64 (IntKind.u64.wrap ((IntKind.u64.wrap ((IntKind.u64.wrap ((z6 .u64 (IntKind.u64.wrap (q_4 + (IntKind.u64.wrap ((z6 .u64 q_3 3689348814741910323) + (z6 .u64 (IntKind.u64.wrap ((z6 .u64 q_2 6148914691236517205) + (z6 .u64 x_1.v 6148914691236517205))) 3689348814741910323))))) 1085102592571150095) + q_5)) + q_6)) + q_7))) h28 h30 fun h31 => ?_
 refine gm h31 fun h0 => gq (.nsq (.seq (rg (gm h0 fun h32 => g1 32 (ji (w64 (IntKind.u64.wrap ((IntKind.u64.wrap ((IntKind.u64.wrap ((z6 .u64 (IntKind.u64.wrap (q_4 + (IntKind.u64.wrap ((z6 .u64 q_3 3689348814741910323) + (z6 .u64 (IntKind.u64.wrap ((z6 .u64 q_2 6148914691236517205) + (z6 .u64 x_1.v 6148914691236517205))) 3689348814741910323))))) 1085102592571150095) + q_5)) + q_6)) + q_7)))) h32 fun h33 => ?_))))
 refine g1 33 (ji (z6 .i64 (w64 (IntKind.u64.wrap ((IntKind.u64.wrap ((IntKind.u64.wrap ((z6 .u64 (IntKind.u64.wrap (q_4 + (IntKind.u64.wrap ((z6 .u64 q_3 3689348814741910323) + (z6 .u64 (IntKind.u64.wrap ((z6 .u64 q_2 6148914691236517205) + (z6 .u64 x_1.v 6148914691236517205))) 3689348814741910323))))) 1085102592571150095) + q_5)) + q_6)) + q_7))) 127)) h33 fun h34 => gm h34 fun h2 => gq (.nsq (.ret ?_))
 have hr := Option.some.inj h
 subst hr
 exact rrA (zf h2) rfl
end
def e59 (F : Nat) : Ent := ent 59 (fun (x : ((Kd .u64) × Unit)) => wO F x.1) (fun (r : Int) => (Enc.enc (r : Int))) 0 false []
abbrev C59 (D : List V → Option V) (F : Nat) : Prop := ∀ (x0 : (Kd .u64)) r, wO F x0 = some r → D [Enc.enc x0] = some (Enc.enc (r : Int))
theorem p59 {F : Nat} : C59 (e59 F).den F := fun x0 _ h => zJ (x0, ()) h
theorem o59 {D : Den} {σ : Sig} {F : Nat} (hF : zu Try.prog D σ) (H : H59 D σ F) : (e59 F).Ok Try.prog := by
 refine yd (f := 59) (show unk 59 = 59 from rfl) (fun args r h => ?_) ⟨Try.f59, Try.func59, rfl, rfl⟩
 obtain ⟨⟨x0, _⟩, y, rfl, hy, rfl⟩ := zH h
 exact zk hF (by kernel_rfl) Try.func59 rfl c59 (show 1 ≤ Try.f59.ntmps by decide) (t59 H x0 _ rfl hy)
def znK : AC := (.seq (.reg [] [jm 6 0, jx 7 (.call (jf 59) [.t 6]), jm 2 7] []) .ret)
def zmX : AC := (.seq (.cond kf (.seq (.reg [] [jm 3 0, jv 4 (.conv .u32 (.t 3)), jx 5 (.call (jf 58) [.t 4]), jm 2 5] []) .ret) .skip) znK)
def A35 : AC := (.seq (.reg [] [jv 2 (.mov (jn 0))] []) zmX)
def zqJ : List An := []
theorem c35 : cC Try.prog Try.f35.ntmps zqJ (Try.f35.body.getD .skip) = some A35 := by kernel_rfl
structure H35 (D : Den) (σ : Sig) (F : Nat) : Prop where
 c59 : C59 (D 59) F
 g59 : σ 59 = some (0, false)
abbrev R35 (r : Int) : (Nat → V) → Prop := RR Try.prog [.tmp 2] 0 false (Enc.enc (r : Int))
section
variable {D : Den} {σ : Sig} {F : Nat} {r : Int}
def xt (F : Nat) (x_1 : (Kd .u64)) : Option Int :=
 (wO F (Kd.mk x_1.v : Kd .u64)).bind fun r_2 =>
 some r_2
theorem t35 (H : H35 D σ F) (x_1 : (Kd .u64)) (s : Nat → V) (hs : zl [(0, .int .u64 x_1.v)] s) (h : xt F x_1 = some r) : Run D σ (R35 r) (.run A35 []) s := by
 unfold xt at h
 have h0 := hs
 refine .seq (rg (g0 (ji 0) fun h2 => gq (.nsq (.seq (LS rfl (.skip (.nsq (.seq (rg (gm h0 fun h6 => ?_))))))))))
 obtain ⟨r_2, E_r_2, h⟩ := bind_some h
 refine zB (m := 0) (al := false) (r := Enc.enc (r_2 : Int)) [Enc.enc ((Kd.mk x_1.v : Kd .u64) : (Kd .u64))] (zd (v := .int .u64 x_1.v) h6 rfl rfl zw) (H.c59 _ _ E_r_2) H.g59 rfl rfl rfl rfl (gm (rf (ji r_2)) fun h2 => gq (.nsq (.ret ?_)))
 have hr := Option.some.inj h
 subst hr
 exact rrA (zf h2) rfl
end
def e35 (F : Nat) : Ent := ent 35 (fun (x : ((Kd .u64) × Unit)) => xt F x.1) (fun (r : Int) => (Enc.enc (r : Int))) 0 false []
abbrev C35 (D : List V → Option V) (F : Nat) : Prop := ∀ (x0 : (Kd .u64)) r, xt F x0 = some r → D [Enc.enc x0] = some (Enc.enc (r : Int))
theorem p35 {F : Nat} : C35 (e35 F).den F := fun x0 _ h => zJ (x0, ()) h
theorem o35 {D : Den} {σ : Sig} {F : Nat} (hF : zu Try.prog D σ) (H : H35 D σ F) : (e35 F).Ok Try.prog := by
 refine yd (f := 35) (show unk 35 = 35 from rfl) (fun args r h => ?_) ⟨Try.f35, Try.func35, rfl, rfl⟩
 obtain ⟨⟨x0, _⟩, y, rfl, hy, rfl⟩ := zH h
 exact zk hF (by kernel_rfl) Try.func35 rfl c35 (show 1 ≤ Try.f35.ntmps by decide) (t35 H x0 _ rfl hy)
def zpD : AC := (.seq (.reg [] [jv 7 (.load (.ag [.p]) (.t 3)), jm 8 1, jm 9 2, jv 10 (.bin .shl (jn 1) (.t 9)), jv 11 (.bin .or (.t 8) (.t 10)), jx 12 (.call (jf 36) [.t 7, .t 11]), jv 13 (.conv .u64 (.t 12)), jx 14 (.call (jf 35) [.t 13]), jm 6 14] []) .ret)
def A24 : AC := (.seq (.reg [.clr [3]] [jx 3 (.box (.t 0)), jv 6 (.mov (jn 0))] []) zpD)
def zqV : List An := [⟨0, [.clr [3]], [], [], []⟩]
theorem c24 : cC Try.prog Try.f24.ntmps zqV (Try.f24.body.getD .skip) = some A24 := by kernel_rfl
structure H24 (D : Den) (σ : Sig) (F : Nat) : Prop where
 c36 : C36 (D 36) F
 g36 : σ 36 = some (0, false)
 c35 : C35 (D 35) F
 g35 : σ 35 = some (0, false)
abbrev R24 (r : Int) : (Nat → V) → Prop := RR Try.prog [.tmp 6] 0 false (Enc.enc (r : Int))
section
variable {D : Den} {σ : Sig} {F : Nat} {r : Int}
def yr (F : Nat) (x_1 : (S1 LI)) (x_2 : Int) (x_3 : Int) : Option Int :=
 (ZW .i64 1 x_3).bind fun q_4 =>
 (x9 F x_1 (ior .i64 x_2 q_4)).bind fun r_5 =>
 (xt F (Kd.mk (IntKind.u64.wrap r_5) : Kd .u64)).bind fun r_6 =>
 some r_6
theorem t24 (H : H24 D σ F) (x_1 : (S1 LI)) (x_2 : Int) (x_3 : Int) (s : Nat → V) (hs : zl [(0, .agg [eL x_1.a]), (1, ji x_2), (2, ji x_3)] s) (h : yr F x_1 x_2 x_3 = some r) : Run D σ (R24 r) (.run A24 []) s := by
 unfold yr at h
 obtain ⟨h0, h1, h2⟩ := hs
 refine .seq (zt (zR ?_))
 refine ez [(0, _), (1, _), (2, _), (3, _)] ⟨za h0 rfl (zF (ze me zn)), za h1 rfl mi, za h2 rfl mi, zb rfl⟩ ?_
 rintro s ⟨h0, h1, h2, h3⟩
 refine xB (.agg [eL x_1.a]) (zy h0 rfl) h3 rfl (g0 (ji 0) fun h6 => gq (.nsq (.seq (rg (g1 3 (.agg [eL x_1.a]) (rf (.ref (.bx 3) 0 [] (.agg [eL x_1.a]))) fun h7 => gm h1 fun h8 => gm h2 fun h9 => ?_)))))
 obtain ⟨q_4, E_q_4, h⟩ := bind_some h
 refine gv (ji q_4) (v9 rfl h9 E_q_4) fun h10 => g2 8 10 (ji (ior .i64 x_2 q_4)) h8 h10 fun h11 => ?_
 obtain ⟨r_5, E_r_5, h⟩ := bind_some h
 refine zB (m := 0) (al := false) (r := Enc.enc (r_5 : Int)) [Enc.enc (x_1 : (S1 LI)), Enc.enc (ior .i64 x_2 q_4 : Int)] (zd (v := .agg [eL x_1.a]) h7 rfl (Enc.erase_enc (x_1 : (S1 LI))) (zd (v := ji (ior .i64 x_2 q_4)) h11 rfl rfl zw)) (H.c36 _ _ _ E_r_5) H.g36 rfl rfl rfl rfl (g1 12 (.int .u64 (IntKind.u64.wrap r_5)) (rf (ji r_5)) fun h13 => ?_)
 obtain ⟨r_6, E_r_6, h⟩ := bind_some h
 refine zB (m := 0) (al := false) (r := Enc.enc (r_6 : Int)) [Enc.enc ((Kd.mk (IntKind.u64.wrap r_5) : Kd .u64) : (Kd .u64))] (zd (v := .int .u64 (IntKind.u64.wrap r_5)) h13 rfl rfl zw) (H.c35 _ _ E_r_6) H.g35 rfl rfl rfl rfl (gm (rf (ji r_6)) fun h6 => gq (.nsq (.ret ?_)))
 have hr := Option.some.inj h
 subst hr
 exact rrA (zf h6) rfl
end
def e24 (F : Nat) : Ent := ent 24 (fun (x : ((S1 LI) × Int × Int × Unit)) => yr F x.1 x.2.1 x.2.2.1) (fun (r : Int) => (Enc.enc (r : Int))) 0 false []
abbrev C24 (D : List V → Option V) (F : Nat) : Prop := ∀ (x0 : (S1 LI)) (x1 : Int) (x2 : Int) r, yr F x0 x1 x2 = some r → D [Enc.enc x0, Enc.enc x1, Enc.enc x2] = some (Enc.enc (r : Int))
theorem p24 {F : Nat} : C24 (e24 F).den F := fun x0 x1 x2 _ h => zJ (x0, x1, x2, ()) h
theorem o24 {D : Den} {σ : Sig} {F : Nat} (hF : zu Try.prog D σ) (H : H24 D σ F) : (e24 F).Ok Try.prog := by
 refine yd (f := 24) (show unk 24 = 24 from rfl) (fun args r h => ?_) ⟨Try.f24, Try.func24, rfl, rfl⟩
 obtain ⟨⟨x0, x1, x2, _⟩, y, rfl, hy, rfl⟩ := zH h
 exact zk hF (by kernel_rfl) Try.func24 rfl c24 (show 3 ≤ Try.f24.ntmps by decide) (t24 H x0 x1 x2 _ ⟨rfl, rfl, rfl⟩ hy)
def zrH : AC := (.reg [] [jm 39 8, jm 40 10, jv 41 (.bin .shl (jn 1) (.t 40)), jv 42 (.bin .or (.t 39) (.t 41)), jm 8 42] [])
def zrs : AC := (.seq (.reg [] [jm 32 7, jm 33 9, jv 34 (.load (.ag [.p]) (.t 6)), jm 35 8, jm 36 10, jx 37 (.call (jf 24) [.t 34, .t 35, .t 36]), jv 38 (.idx (.t 32) (.t 33) 1), jz (.store .s (.t 38) (.t 37))] []) zrH)
def zqd : AC := (.reg [] [jv 43 (.bin .add (.t 27) (jn 1)), jm 27 43] [])
def zqi : AC := (.seq (.block 1 (.seq (.reg [] [jm 29 27, jv 30 (.idx (.t 25) (.t 27) 1), jv 31 (.load .s (.t 30)), jm 9 29, jm 10 31] []) zrs)) zqd)
def zrI : AC := (.seq (.cond (.t 28) .skip (.exit 0)) zqi)
def zjK : AC := (.seq (.reg [] [jv 28 (.bin .lss (.t 27) (.t 26))] []) zrI)
def zn1 : AC := (.seq (.reg [] [jm 44 7, jm 4 44, jv 5 (.mov kt)] [.home 7 4]) .ret)
def zoQ : AC := (.cond (.t 19) (.seq (.reg [] [jv 4 (.mov (.k (.sl .nl .s 0 []))), jv 5 (.mov kf)] []) .ret) .skip)
def znx : AC := (.block 0 (.loop zjK))
def zpk : AC := (.seq (.seq (.reg [] [jm 25 1, jv 26 (.len (.t 25)), jv 27 (.mov (jn 0))] []) znx) zn1)
def zmc : AC := (.seq (.reg [] [jv 8 (.mov (jn 0))] []) zpk)
def zno : AC := (.seq (.reg [.clr [24]] [jv 22 (.fld (.t 2) 0 0), jv 23 (.load .s (.t 22)), jx 24 (.mk (.t 23) i0 i0), jm 7 24] [.home 24 7]) zmc)
def zo2 : AC := (.seq (.reg [.clr [6]] [jv 20 (.load (.ag [.s, .p]) (.t 2)), jx 21 (.call (jf 23) [.t 20]), jx 6 (.alloc (.agg [.sl .nl .s 0 []])), jz (.store (.ag [.p]) (.t 6) (.t 21))] []) zno)
def zlA : AC := (.seq (.seq (.reg [] [jv 11 (.load (.ag [.s, .p]) (.t 2)), jx 12 (.call (jf 21) [.t 11]), jv 13 (.un .not (.t 12)), jm 14 13, jg 15 14 false (.load (.ag [.s, .p]) (.t 2)), jg 16 14 false (.mov (.t 1)), .mk (some 17) (some (14, false)) false (.call (jf 22) [.t 15, .t 16]), jg 18 14 false (.un .not (.t 17)), jv 19 (.pick (.t 14) kt (.t 18))] []) zoQ) zo2)
def A6 : AC := (.seq (.reg [.clr [2]] [jx 2 (.box (.t 0)), jv 4 (.mov (.k (.sl .nl .s 0 []))), jv 5 (.mov kf)] []) zlA)
def an6 : List An := [⟨0, [.clr [2]], [], [], []⟩, ⟨3, [.clr [6]], [], [], []⟩, ⟨4, [.clr [24]], [], [], [.home 24 7]⟩, ⟨12, [], [], [], [.home 7 4]⟩]
theorem c6 : cC Try.prog Try.f6.ntmps an6 (Try.f6.body.getD .skip) = some A6 := by kernel_rfl
structure H6 (D : Den) (σ : Sig) (F : Nat) : Prop where
 c21 : C21 (D 21) F
 g21 : σ 21 = some (0, false)
 c22 : C22 (D 22) F
 g22 : σ 22 = some (0, false)
 c23 : C23 (D 23) F
 g23 : σ 23 = some (0, false)
 c24 : C24 (D 24) F
 g24 : σ 24 = some (0, false)
abbrev R6 (r : (LI × Bool)) : (Nat → V) → Prop := RR Try.prog [.tmp 4, .tmp 5] 0 false (.tup [eL r.1, Enc.enc (r.2 : Bool)])
section
variable {D : Den} {σ : Sig} {F : Nat} {r : (LI × Bool)}
def wr (F : Nat) (r_6 : (S1 LI)) (x_2 : LI)  : Nat → LI → Int → Int → Option (LI × Bool)
 | 0, _, _, _ => none
 | k + 1, x_12, x_13, x_14 =>
   bif decide (x_14 < (x_2.length : Int)) then
    (idx x_2 x_14).bind fun e_19 =>
    (yr F r_6 x_13 e_19).bind fun r_20 =>
    (idx x_12 x_14).bind fun e_21 =>
    (ZW .i64 1 e_19).bind fun q_22 =>
    (wr F r_6 x_2 k) (x_12.set x_14.toNat r_20) (ior .i64 x_13 q_22) (w64 (x_14 + 1))
   else
    some (x_12, true)
theorem zgP (H : H6 D σ F) (r_6 : (S1 LI)) (x_2 : LI)  : ∀ (k : Nat) (x_12 : LI) (x_13 : Int) (x_14 : Int) (s : Nat → V), zl [(4, nI), (5, jb false), (6, .ref (.bx 6) 0 [] (.agg [eL r_6.a])), (7, oI 7 [] (.of x_12)), (8, ji x_13), (25, eL x_2), (26, ji (x_2.length : Int)), (27, ji x_14)] s → wr F r_6 x_2 k x_12 x_13 x_14 = some r → Run D σ (R6 r) (.run zjK [.lp zjK, .bk 0, .sq zn1]) s := by
 intro k
 induction k with
 | zero => intro x_12 x_13 x_14 s _ h; exact nm h
 | succ k ih =>
   intro x_12 x_13 x_14 s hs h
   rw [wr] at h
   obtain ⟨h4, h5, h6, h7, h8, h25, h26, h27⟩ := hs
   refine .seq (rg (g2 27 26 (jb (decide (x_14 < (x_2.length : Int)))) h27 h26 fun h28 => gq (.nsq (.seq (zi (t := decide (x_14 < (x_2.length : Int))) h28 h (fun h => ?_) (fun h => ?_))))))
   · refine .skip (.nsq (.seq (.block (.seq (rg (gm h27 fun h29 => ?_))))))
     obtain ⟨e_19, E_e_19, h⟩ := bind_some h
     refine gv (.ref .sh 0 [] (ji e_19)) (yu (t := .sh) (lo := 0) (xs := x_2) h25 h27 E_e_19 rfl rfl) fun h30 => g1 30 (ji e_19) h30 fun h31 => gm h29 fun h9 => gm h31 fun h10 => gq (.nsq (.seq (rg (gm h7 fun h32 => gm h9 fun h33 => g1 6 (.agg [eL r_6.a]) h6 fun h34 => gm h8 fun h35 => gm h10 fun h36 => ?_))))
     obtain ⟨r_20, E_r_20, h⟩ := bind_some h
     refine zB (m := 0) (al := false) (r := Enc.enc (r_20 : Int)) [Enc.enc (r_6 : (S1 LI)), Enc.enc (x_13 : Int), Enc.enc (e_19 : Int)] (zd (v := .agg [eL r_6.a]) h34 rfl (Enc.erase_enc (r_6 : (S1 LI))) (zd (v := ji x_13) h35 rfl rfl (zd (v := ji e_19) h36 rfl rfl zw))) (H.c24 _ _ _ _ E_r_20) H.g24 rfl rfl rfl rfl ?_
     obtain ⟨e_21, E_e_21, h⟩ := bind_some h
     refine gv (.ref (.at 7 []) x_14.toNat [] (ji e_21)) (vo (o := .of x_12) h32 h33 E_e_21 rfl) fun h38 => z7 (ji r_20) (zy h38 rfl) (zy rfl rfl) (xR (by first | rfl | simp [V.toks, V.tokss, Enc.toks_enc, z4])) (gz [(4, nI), (5, jb false), (6, .ref (.bx 6) 0 [] (.agg [eL r_6.a])), (7, _), (8, ji x_13), (10, ji e_19), (25, eL x_2), (26, ji (x_2.length : Int)), (27, ji x_14)] ⟨zc h4 rfl, zc h5 rfl, zc h6 (zD rfl rfl (yp (zq uE rfl))), zc h7 WG, zc h8 rfl, zc h10 rfl, zc h25 uE, zc h26 rfl, zc h27 rfl⟩ ?_)
     rintro s ⟨h4, h5, h6, h7, h8, h10, h25, h26, h27⟩
     refine .nsq (rg (gm h8 fun h39 => gm h10 fun h40 => ?_))
     obtain ⟨q_22, E_q_22, h⟩ := bind_some h
     refine gv (ji q_22) (v9 rfl h40 E_q_22) fun h41 => g2 39 41 (ji (ior .i64 x_13 q_22)) h39 h41 fun h42 => gm h42 fun h8 => gq (.nbk (.nsq (rg (g1 27 (ji (w64 (x_14 + 1))) h27 fun h43 => gm h43 fun h27 => gq (.nlp ?_)))))
     exact ih (x_12.set x_14.toNat r_20) (ior .i64 x_13 q_22) (w64 (x_14 + 1)) _ ⟨h4, h5, h6, h7, h8, h25, h26, h27⟩ h
   refine .exit (.esq (.elp (.ebk (.nsq (.seq (rg (gm h7 fun h44 => gm h44 fun h4 => g0 (jb true) fun h5 => yE (yq (r := 7) (x := 4) (v := _) h4 rfl (fun s_5 hg_5 => ?_)))))))))
   refine ez [(4, oI 4 [] (.of x_12)), (5, jb true)] ⟨hg_5 4 _ _ h4 (zm (r := 7) (p := []) rfl rfl), hg_5 5 _ _ h5 mb⟩ ?_
   rintro s ⟨h4, h5⟩
   refine .nsq (.ret ?_)
   have hr := Option.some.inj h
   subst hr
   exact rrB (zf h4) (zf h5) (ug (wo (zY (wz (o := .of x_12)) (zY (yO (x := (true : Bool))) xv))) (US (xe (wn rfl) (xe rfl uP))))
def w9 (F : Nat) (x_2 : LI) (x_1 : GR)  (x_5 : Bool) : Option (LI × Bool) :=
 bif x_5 then
  some ([], false)
 else
  (vp F x_1).bind fun r_6 =>
  (mkN x_1.1 (0 : Int)).bind fun mk_7 =>
  wr F r_6 x_2 F mk_7 0 0
theorem zb7 (H : H6 D σ F) (x_2 : LI) (x_1 : GR)  (x_5 : Bool) (s : Nat → V) (hs : zl [(1, eL x_2), (2, bG 2 x_1), (4, nI), (5, jb false), (19, jb x_5)] s) (h : w9 F x_2 x_1  x_5 = some r) : Run D σ (R6 r) (.nrm [.sq zoQ, .sq zo2]) s := by
 unfold w9 at h
 obtain ⟨h1, h2, h4, h5, h19⟩ := hs
 refine .nsq (zi (t := x_5) h19 h (fun h => ?_) (fun h => ?_))
 · refine .seq (rg (g0 nI fun h4 => g0 (jb false) fun h5 => gq (.nsq (.ret ?_))))
   have hr := Option.some.inj h
   subst hr
   exact rrB (zf h4) (zf h5) (ug (wo (zY (wz (o := (.nil : NL Int)) (t := .nl)) (zY (yO (x := (false : Bool))) xv))) (US (xe zew (xe rfl uP))))
 refine .skip (.nsq (.seq (zt (zR ?_))))
 refine ez [(1, _), (2, _), (4, _), (5, _), (6, _)] ⟨za h1 rfl me, za h2 rfl (zh rfl mIE), za h4 rfl rfl, za h5 rfl mb, zb rfl⟩ ?_
 rintro s ⟨h1, h2, h4, h5, h6⟩
 refine g1 2 (gV x_1) h2 fun h20 => ?_
 obtain ⟨r_6, E_r_6, h⟩ := bind_some h
 refine zB (m := 0) (al := false) (r := Enc.enc (r_6 : (S1 LI))) [Enc.enc (x_1 : GR)] (zd (v := gV x_1) h20 rfl (Enc.erase_enc (x_1 : GR)) zw) (H.c23 _ _ E_r_6) H.g23 rfl rfl rfl rfl (xp h6 (z7 (.agg [eL r_6.a]) (zy rfl rfl) (zy rfl rfl) (xR (by first | rfl | simp [V.toks, V.tokss, Enc.toks_enc, z4])) (gz [(1, eL x_2), (2, bG 2 x_1), (4, nI), (5, jb false), (6, .ref (.bx 6) 0 [] (.agg [eL r_6.a]))] ⟨zc h1 uE, zc h2 (zD rfl rfl uIE), zc h4 rfl, zc h5 rfl, zc rfl rfl⟩ ?_)))
 rintro s ⟨h1, h2, h4, h5, h6⟩
 refine .nsq (.seq (zt (zR ?_)))
 refine ez [(1, _), (2, _), (4, _), (5, _), (6, _), (24, _)] ⟨za h1 rfl me, za h2 rfl (zh rfl mIE), za h4 rfl rfl, za h5 rfl mb, za h6 rfl (zh rfl (zF (ze me zn))), zb rfl⟩ ?_
 rintro s ⟨h1, h2, h4, h5, h6, h24⟩
 refine g1 2 (.ref (.bx 2) 0 [0] (ji x_1.1)) h2 fun h22 => g1 22 (ji x_1.1) h22 fun h23 => ?_
 obtain ⟨mk_7, E_mk_7, h⟩ := bind_some h
 refine zhD (0 : Int) h23 rfl h24 E_mk_7 (gm (rf (oI 24 [] (.of mk_7))) fun h7 => yE (yq (r := 24) (x := 7) (v := _) h7 rfl (fun s_4 hg_4 => ?_)))
 refine ez [(1, eL x_2), (4, nI), (5, jb false), (6, .ref (.bx 6) 0 [] (.agg [eL r_6.a])), (7, oI 7 [] (.of mk_7))] ⟨hg_4 1 _ _ h1 me, hg_4 4 _ _ h4 rfl, hg_4 5 _ _ h5 mb, hg_4 6 _ _ h6 (zh rfl (zF (ze me zn))), hg_4 7 _ _ h7 (zm (r := 24) (p := []) rfl rfl)⟩ ?_
 rintro s ⟨h1, h4, h5, h6, h7⟩
 refine .nsq (.seq (rg (g0 (ji 0) fun h8 => gq (.nsq (.seq (.seq (rg (gm h1 fun h25 => gv (ji (x_2.length : Int)) (yo (xs := x_2) h25) fun h26 => g0 (ji 0) fun h27 => gq (.nsq (.block (.loop ?_)))))))))))
 exact zgP H r_6 x_2 F mk_7 0 0 _ ⟨h4, h5, h6, h7, h8, h25, h26, h27⟩ h
def x7 (F : Nat) (x_1 : GR) (x_2 : LI) : Option (LI × Bool) :=
 (xP F x_1).bind fun r_23 =>
 bif (!r_23) then
  w9 F x_2 x_1 true
 else
  (vS F x_1 x_2).bind fun r_24 =>
  w9 F x_2 x_1 (!r_24)
theorem t6 (H : H6 D σ F) (x_1 : GR) (x_2 : LI) (s : Nat → V) (hs : zl [(0, gV x_1), (1, eL x_2)] s) (h : x7 F x_1 x_2 = some r) : Run D σ (R6 r) (.run A6 []) s := by
 unfold x7 at h
 obtain ⟨h0, h1⟩ := hs
 refine .seq (zt (zR ?_))
 refine ez [(0, _), (1, _), (2, _)] ⟨za h0 rfl mIE, za h1 rfl me, zb rfl⟩ ?_
 rintro s ⟨h0, h1, h2⟩
 refine xB (gV x_1) (zy h0 rfl) h2 rfl (g0 nI fun h4 => g0 (jb false) fun h5 => gq (.nsq (.seq (.seq (rg (g1 2 (gV x_1) (rf (bG 2 x_1)) fun h11 => ?_))))))
 obtain ⟨r_23, E_r_23, h⟩ := bind_some h
 refine zB (m := 0) (al := false) (r := Enc.enc (r_23 : Bool)) [Enc.enc (x_1 : GR)] (zd (v := gV x_1) h11 rfl (Enc.erase_enc (x_1 : GR)) zw) (H.c21 _ _ E_r_23) H.g21 rfl rfl rfl rfl (g1 12 (jb (!r_23)) (rf (jb r_23)) fun h13 => gm h13 fun h14 => zP (c := (!r_23)) h (fun hg4 h => ?_) (fun hg4 h => ?_))
 · iterate 4 refine ym (ct h14 hg4) ?_
   refine g2 14 18 (jb true) (ct h14 hg4) (rf (.tup [])) fun h19 => gq ?_
   exact zb7 H x_2 x_1 true _ ⟨h1, rfl, h4, h5, h19⟩ h
 refine zg (ct h14 hg4) (g1 2 (gV x_1) (rf (bG 2 x_1)) fun h15 => zg (ct h14 hg4) (gm h1 fun h16 => ?_))
 obtain ⟨r_24, E_r_24, h⟩ := bind_some h
 refine zg (ct h14 hg4) (zB (m := 0) (al := false) (r := Enc.enc (r_24 : Bool)) [Enc.enc (x_1 : GR), eL x_2] (zd (v := gV x_1) h15 rfl (Enc.erase_enc (x_1 : GR)) (zd (v := eL x_2) h16 rfl (Enc.erase_enc (x_2 : LI)) zw)) (H.c22 _ _ _ E_r_24) H.g22 rfl rfl rfl rfl (zg (ct h14 hg4) (g1 17 (jb (!r_24)) (rf (jb r_24)) fun h18 => g2 14 18 (jb (!r_24)) (ct h14 hg4) h18 fun h19 => gq ?_)))
 exact zb7 H x_2 x_1 (!r_24) _ ⟨h1, rfl, h4, h5, h19⟩ h
end
def e6 (F : Nat) : Ent := ent 6 (fun (x : (GR × LI × Unit)) => x7 F x.1 x.2.1) (fun (r : (LI × Bool)) => (.tup [eL r.1, Enc.enc (r.2 : Bool)])) 0 false []
abbrev C6 (D : List V → Option V) (F : Nat) : Prop := ∀ (x0 : GR) (x1 : LI) r, x7 F x0 x1 = some r → D [Enc.enc x0, Enc.enc x1] = some (.tup [eL r.1, Enc.enc (r.2 : Bool)])
theorem p6 {F : Nat} : C6 (e6 F).den F := fun x0 x1 _ h => zJ (x0, x1, ()) h
theorem o6 {D : Den} {σ : Sig} {F : Nat} (hF : zu Try.prog D σ) (H : H6 D σ F) : (e6 F).Ok Try.prog := by
 refine yd (f := 6) (show unk 6 = 6 from rfl) (fun args r h => ?_) ⟨Try.f6, Try.func6, rfl, rfl⟩
 obtain ⟨⟨x0, x1, _⟩, y, rfl, hy, rfl⟩ := zH h
 exact zk hF (by kernel_rfl) Try.func6 rfl c6 (show 2 ≤ Try.f6.ntmps by decide) (t6 H x0 x1 _ ⟨rfl, rfl⟩ hy)
def zmu : AC := (.seq (.reg [] [jm 7 0, jm 8 1, jv 9 (.bin .geq (.t 7) (.t 8)), jm 10 9, jg 11 10 true (.mov (.t 0)), jg 12 10 true (.mov (.t 2)), jg 13 10 true (.bin .leq (.t 11) (.t 12)), jv 14 (.pick (.t 10) (.t 13) kf), jm 6 14] []) .ret)
def A49 : AC := (.seq (.reg [] [jv 6 (.mov kf)] []) zmu)
def zrc : List An := []
theorem c49 : cC Try.prog Try.f49.ntmps zrc (Try.f49.body.getD .skip) = some A49 := by kernel_rfl
structure H49 (D : Den) (σ : Sig) (F : Nat) : Prop where
 mk ::
abbrev R49 (r : Bool) : (Nat → V) → Prop := RR Try.prog [.tmp 6] 0 false (Enc.enc (r : Bool))
section
variable {D : Den} {σ : Sig} {F : Nat} {r : Bool}
def Y3 (F : Nat) (x_1 : Int) (x_2 : Int) (x_3 : Int) : Option Bool :=
 bif decide (x_1 ≥ x_2) then
  some (decide (x_1 ≤ x_3))
 else
  some false
theorem t49 (H : H49 D σ F) (x_1 : Int) (x_2 : Int) (x_3 : Int) (s : Nat → V) (hs : zl [(0, ji x_1), (1, ji x_2), (2, ji x_3)] s) (h : Y3 F x_1 x_2 x_3 = some r) : Run D σ (R49 r) (.run A49 []) s := by
 unfold Y3 at h
 obtain ⟨h0, h1, h2⟩ := hs
 refine .seq (rg (g0 (jb false) fun h6 => gq (.nsq (.seq (rg (gm h0 fun h7 => gm h1 fun h8 => g2 7 8 (jb (decide (x_1 ≥ x_2))) h7 h8 fun h9 => gm h9 fun h10 => zP (c := decide (x_1 ≥ x_2)) h (fun hg4 h => ?_) (fun hg4 h => ?_)))))))
 · refine zg (ct h10 hg4) (gm h0 fun h11 => zg (ct h10 hg4) (gm h2 fun h12 => zg (ct h10 hg4) (g2 11 12 (jb (decide (x_1 ≤ x_3))) h11 h12 fun h13 => g2 10 13 (jb (decide (x_1 ≤ x_3))) (ct h10 hg4) h13 fun h14 => gm h14 fun h6 => gq (.nsq (.ret ?_)))))
   have hr := Option.some.inj h
   subst hr
   exact rrA (zf h6) rfl
 iterate 3 refine ym (ct h10 hg4) ?_
 refine g2 10 13 (jb false) (ct h10 hg4) (rf (.tup [])) fun h14 => gm h14 fun h6 => gq (.nsq (.ret ?_))
 have hr := Option.some.inj h
 subst hr
 exact rrA (zf h6) rfl
end
def e49 (F : Nat) : Ent := ent 49 (fun (x : (Int × Int × Int × Unit)) => Y3 F x.1 x.2.1 x.2.2.1) (fun (r : Bool) => (Enc.enc (r : Bool))) 0 false []
abbrev C49 (D : List V → Option V) (F : Nat) : Prop := ∀ (x0 : Int) (x1 : Int) (x2 : Int) r, Y3 F x0 x1 x2 = some r → D [Enc.enc x0, Enc.enc x1, Enc.enc x2] = some (Enc.enc (r : Bool))
theorem p49 {F : Nat} : C49 (e49 F).den F := fun x0 x1 x2 _ h => zJ (x0, x1, x2, ()) h
theorem o49 {D : Den} {σ : Sig} {F : Nat} (hF : zu Try.prog D σ) (H : H49 D σ F) : (e49 F).Ok Try.prog := by
 refine yd (f := 49) (show unk 49 = 49 from rfl) (fun args r h => ?_) ⟨Try.f49, Try.func49, rfl, rfl⟩
 obtain ⟨⟨x0, x1, x2, _⟩, y, rfl, hy, rfl⟩ := zH h
 exact zk hF (by kernel_rfl) Try.func49 rfl c49 (show 3 ≤ Try.f49.ntmps by decide) (t49 H x0 x1 x2 _ ⟨rfl, rfl, rfl⟩ hy)
def zl5 : AC := (.cond (.t 9) .skip (.exit 0))
def zh3 : AC := (.cond (.t 54) (.seq (.reg [] [jv 2 (.mov kf)] []) .ret) .skip)
def zou : AC := (.seq (.reg [] [jv 17 (.idxA (.t 4) (jn 0) 2 1), jv 18 (.load .s (.t 17)), jv 19 (.fld (.t 1) 0 0), jv 20 (.load .s (.t 19)), jv 21 (.bin .sub (.t 20) (jn 1)), jx 22 (.call (jf 49) [.t 18, jn 0, .t 21]), jv 23 (.un .not (.t 22)), jm 24 23, jg 25 24 false (.idxA (.t 4) (jn 1) 2 1), jg 26 24 false (.load .s (.t 25)), jg 27 24 false (.fld (.t 1) 0 0), jg 28 24 false (.load .s (.t 27)), jg 29 24 false (.bin .sub (.t 28) (jn 1)), .mk (some 30) (some (24, false)) false (.call (jf 49) [.t 26, jn 0, .t 29]), jg 31 24 false (.un .not (.t 30)), jv 32 (.pick (.t 24) kt (.t 31)), jm 33 32, jg 34 33 false (.idxA (.t 4) (jn 0) 2 1), jg 35 33 false (.load .s (.t 34)), jg 36 33 false (.idxA (.t 4) (jn 1) 2 1), jg 37 33 false (.load .s (.t 36)), jg 38 33 false (.bin .geq (.t 35) (.t 37)), jv 39 (.pick (.t 33) kt (.t 38)), jm 40 39, jg 41 40 false (.mov (.t 3)), jg 42 40 false (.bin .gtr (.t 41) (jn 0)), jg 43 40 false (.mov (.t 42)), jg 44 43 true (.fld (.t 1) 1 1), jg 45 43 true (.load .p (.t 44)), jg 46 43 true (.mov (.t 3)), jg 47 43 true (.bin .sub (.t 46) (jn 1)), jg 48 43 true (.idx (.t 45) (.t 47) 2), jg 49 43 true (.load (.ag [.s, .s]) (.t 48)), jg 50 43 true (.load (.ag [.s, .s]) (.t 4)), .mk (some 51) (some (43, true)) false (.call (jf 50) [.t 49, .t 50]), jg 52 43 true (.un .not (.t 51)), jg 53 40 false (.pick (.t 43) (.t 52) kf), jv 54 (.pick (.t 40) kt (.t 53))] []) zh3)
def ziq : AC := (.reg [] [jm 10 3, jv 11 (.bin .add (.t 10) (jn 1)), jm 3 11] [])
def zkZ : AC := (.seq (.block 1 (.seq (.reg [.clr [4]] [jv 12 (.fld (.t 1) 1 1), jv 13 (.load .p (.t 12)), jm 14 3, jv 15 (.idx (.t 13) (.t 14) 2), jv 16 (.load (.ag [.s, .s]) (.t 15)), jx 4 (.alloc (.agg [i0, i0])), jz (.store (.ag [.s, .s]) (.t 4) (.t 16))] []) zou)) ziq)
def LE : AC := (.seq (.seq (.reg [] [jm 5 3, jv 6 (.fld (.t 1) 1 1), jv 7 (.load .p (.t 6)), jv 8 (.len (.t 7)), jv 9 (.bin .lss (.t 5) (.t 8))] []) zl5) zkZ)
def zcV : AC := (.seq (.reg [] [jv 55 (.fld (.t 1) 0 0), jv 56 (.load .s (.t 55)), jx 57 (.call (jf 49) [.t 56, jn 0, jn 8]), jm 2 57] []) .ret)
def znn : AC := (.block 0 (.loop LE))
def zmZ : AC := (.seq (.seq (.reg [] [jv 3 (.mov (jn 0))] []) znn) zcV)
def A25 : AC := (.seq (.reg [.clr [1]] [jx 1 (.box (.t 0)), jv 2 (.mov kf)] []) zmZ)
def zq4 : List An := [⟨0, [.clr [1]], [], [], []⟩, ⟨4, [.clr [4]], [], [], []⟩]
theorem c25 : cC Try.prog Try.f25.ntmps zq4 (Try.f25.body.getD .skip) = some A25 := by kernel_rfl
structure H25 (D : Den) (σ : Sig) (F : Nat) : Prop where
 c49 : C49 (D 49) F
 g49 : σ 49 = some (0, false)
 c50 : C50 (D 50) F
 g50 : σ 50 = some (0, false)
abbrev R25 (r : Bool) : (Nat → V) → Prop := RR Try.prog [.tmp 2] 0 false (Enc.enc (r : Bool))
section
variable {D : Den} {σ : Sig} {F : Nat} {r : Bool}
def wW (F : Nat) (x_1 : GR) (x_12 : Int) (c1 : Int → Option Bool) (x_28 : Bool) : Option Bool :=
 bif x_28 then
  some false
 else
  c1 (w64 (x_12 + 1))
theorem Wm (H : H25 D σ F) (x_1 : GR) (x_12 : Int) (c1 : Int → Option Bool) (Hc1 : ∀ (x_12 : Int) (s : Nat → V), zl [(1, bG 1 x_1), (2, jb false), (3, ji x_12)] s → c1 x_12 = some r → Run D σ (R25 r) (.run LE [.lp LE, .bk 0, .sq zcV]) s) (x_28 : Bool) (s : Nat → V) (hs : zl [(1, bG 1 x_1), (2, jb false), (3, ji x_12), (54, jb x_28)] s) (h : wW F x_1 x_12 c1 x_28 = some r) : Run D σ (R25 r) (.nrm [.sq zh3, .bk 1, .sq ziq, .lp LE, .bk 0, .sq zcV]) s := by
 unfold wW at h
 obtain ⟨h1, h2, h3, h54⟩ := hs
 refine .nsq (zi (t := x_28) h54 h (fun h => ?_) (fun h => ?_))
 · refine .seq (rg (g0 (jb false) fun h2 => gq (.nsq (.ret ?_))))
   have hr := Option.some.inj h
   subst hr
   exact rrA (zf h2) rfl
 refine .skip (.nbk (.nsq (rg (gm h3 fun h10 => g1 10 (ji (w64 (x_12 + 1))) h10 fun h11 => gm h11 fun h3 => gq (.nlp ?_)))))
 exact Hc1 (w64 (x_12 + 1)) _ ⟨h1, h2, h3⟩ h
def yK (F : Nat) (x_1 : GR)  : Nat → Int → Option Bool
 | 0, _ => none
 | k + 1, x_12 =>
   bif decide (x_12 < (x_1.2.length : Int)) then
    (idx x_1.2 x_12).bind fun e_23 =>
    (Y3 F e_23.1 0 (w64 (x_1.1 - 1))).bind fun r_29 =>
    bif (!r_29) then
     wW F x_1 x_12 (yK F x_1 k) true
    else
     (Y3 F e_23.2 0 (w64 (x_1.1 - 1))).bind fun r_30 =>
     bif (!r_30) then
      wW F x_1 x_12 (yK F x_1 k) true
     else
      bif decide (e_23.1 ≥ e_23.2) then
       wW F x_1 x_12 (yK F x_1 k) true
      else
       bif decide (x_12 > 0) then
        (idx x_1.2 (w64 (x_12 - 1))).bind fun e_31 =>
        (vI F e_31 e_23).bind fun r_32 =>
        wW F x_1 x_12 (yK F x_1 k) (!r_32)
       else
        wW F x_1 x_12 (yK F x_1 k) false
   else
    (Y3 F x_1.1 0 8).bind fun r_33 =>
    some r_33
theorem zgi (H : H25 D σ F) (x_1 : GR)  : ∀ (k : Nat) (x_12 : Int) (s : Nat → V), zl [(1, bG 1 x_1), (2, jb false), (3, ji x_12)] s → yK F x_1 k x_12 = some r → Run D σ (R25 r) (.run LE [.lp LE, .bk 0, .sq zcV]) s := by
 intro k
 induction k with
 | zero => intro x_12 s _ h; exact nm h
 | succ k ih =>
   intro x_12 s hs h
   rw [yK] at h
   obtain ⟨h1, h2, h3⟩ := hs
   refine .seq (.seq (rg (gm h3 fun h5 => g1 1 (.ref (.bx 1) 0 [1] (eP x_1.2)) h1 fun h6 => g1 6 (eP x_1.2) h6 fun h7 => gv (ji (x_1.2.length : Int)) (yo (xs := x_1.2) h7) fun h8 => g2 5 8 (jb (decide (x_12 < (x_1.2.length : Int)))) h5 h8 fun h9 => gq (.nsq (zi (t := decide (x_12 < (x_1.2.length : Int))) h9 h (fun h => ?_) (fun h => ?_))))))
   · refine .skip (.nsq (.seq (.block (.seq (zt (zR ?_))))))
     refine ez [(1, _), (2, _), (3, _), (4, _)] ⟨za h1 rfl (zh rfl mIE), za h2 rfl mb, za h3 rfl mi, zb rfl⟩ ?_
     rintro s ⟨h1, h2, h3, h4⟩
     refine g1 1 (.ref (.bx 1) 0 [1] (eP x_1.2)) h1 fun h12 => g1 12 (eP x_1.2) h12 fun h13 => gm h3 fun h14 => ?_
     obtain ⟨e_23, E_e_23, h⟩ := bind_some h
     refine gv (.ref .sh 0 [] (.agg [ji e_23.1, ji e_23.2])) (yu (t := .sh) (lo := 0) (xs := x_1.2) h13 h14 E_e_23 rfl rfl) fun h15 => g1 15 (.agg [ji e_23.1, ji e_23.2]) h15 fun h16 => xp h4 (z7 (.agg [ji e_23.1, ji e_23.2]) (zy rfl rfl) (zy h16 rfl) (xR (by first | rfl | simp [V.toks, V.tokss, Enc.toks_enc, z4])) (gz [(1, bG 1 x_1), (2, jb false), (3, ji x_12), (4, .ref (.bx 4) 0 [] (.agg [ji e_23.1, ji e_23.2]))] ⟨zc h1 (zD rfl rfl uIE), zc h2 rfl, zc h3 rfl, zc rfl rfl⟩ ?_))
     rintro s ⟨h1, h2, h3, h4⟩
     refine .nsq (.seq (rg (g1 4 (.ref (.bx 4) 0 [0] (ji e_23.1)) h4 fun h17 => g1 17 (ji e_23.1) h17 fun h18 => g1 1 (.ref (.bx 1) 0 [0] (ji x_1.1)) h1 fun h19 => g1 19 (ji x_1.1) h19 fun h20 => g1 20 (ji (w64 (x_1.1 - 1))) h20 fun h21 => ?_)))
     obtain ⟨r_29, E_r_29, h⟩ := bind_some h
     refine zB (m := 0) (al := false) (r := Enc.enc (r_29 : Bool)) [Enc.enc (e_23.1 : Int), Enc.enc (0 : Int), Enc.enc (w64 (x_1.1 - 1) : Int)] (zd (v := ji e_23.1) h18 rfl rfl (zd (v := ji 0) rfl rfl rfl (zd (v := ji (w64 (x_1.1 - 1))) h21 rfl rfl zw))) (H.c49 _ _ _ _ E_r_29) H.g49 rfl rfl rfl rfl (g1 22 (jb (!r_29)) (rf (jb r_29)) fun h23 => gm h23 fun h24 => zP (c := (!r_29)) h (fun hg8 h => ?_) (fun hg8 h => ?_))
     · iterate 7 refine ym (ct h24 hg8) ?_
       refine g2 24 31 (jb true) (ct h24 hg8) (rf (.tup [])) fun h32 => gm h32 fun h33 => ym h33 ?_
       iterate 4 refine ym h33 ?_
       refine g2 33 38 (jb true) h33 (rf (.tup [])) fun h39 => gm h39 fun h40 => ym h40 ?_
       iterate 2 refine ym h40 ?_
       iterate 9 refine Z0 rfl ?_
       refine ym h40 (g2 40 53 (jb true) h40 (rf (.tup [])) fun h54 => gz [(1, _), (2, _), (3, _), (54, _)] ⟨h1, h2, h3, h54⟩ ?_)
       rintro s ⟨h1, h2, h3, h54⟩
       exact Wm H x_1 x_12 (yK F x_1 k) ih true _ ⟨h1, h2, h3, h54⟩ h
     refine zg (ct h24 hg8) (g1 4 (.ref (.bx 4) 0 [1] (ji e_23.2)) h4 fun h25 => zg (ct h24 hg8) (g1 25 (ji e_23.2) h25 fun h26 => zg (ct h24 hg8) (g1 1 (.ref (.bx 1) 0 [0] (ji x_1.1)) h1 fun h27 => zg (ct h24 hg8) (g1 27 (ji x_1.1) h27 fun h28 => zg (ct h24 hg8) (g1 28 (ji (w64 (x_1.1 - 1))) h28 fun h29 => ?_)))))
     obtain ⟨r_30, E_r_30, h⟩ := bind_some h
     refine zg (ct h24 hg8) (zB (m := 0) (al := false) (r := Enc.enc (r_30 : Bool)) [Enc.enc (e_23.2 : Int), Enc.enc (0 : Int), Enc.enc (w64 (x_1.1 - 1) : Int)] (zd (v := ji e_23.2) h26 rfl rfl (zd (v := ji 0) rfl rfl rfl (zd (v := ji (w64 (x_1.1 - 1))) h29 rfl rfl zw))) (H.c49 _ _ _ _ E_r_30) H.g49 rfl rfl rfl rfl (zg (ct h24 hg8) (g1 30 (jb (!r_30)) (rf (jb r_30)) fun h31 => g2 24 31 (jb (!r_30)) (ct h24 hg8) h31 fun h32 => gm h32 fun h33 => zP (c := (!r_30)) h (fun hg17 h => ?_) (fun hg17 h => ?_))))
     · iterate 5 refine ym (ct h33 hg17) ?_
       refine g2 33 38 (jb true) (ct h33 hg17) (rf (.tup [])) fun h39 => gm h39 fun h40 => ym h40 ?_
       iterate 2 refine ym h40 ?_
       iterate 9 refine Z0 rfl ?_
       refine ym h40 (g2 40 53 (jb true) h40 (rf (.tup [])) fun h54 => gz [(1, _), (2, _), (3, _), (54, _)] ⟨h1, h2, h3, h54⟩ ?_)
       rintro s ⟨h1, h2, h3, h54⟩
       exact Wm H x_1 x_12 (yK F x_1 k) ih true _ ⟨h1, h2, h3, h54⟩ h
     refine zg (ct h33 hg17) (g1 4 (.ref (.bx 4) 0 [0] (ji e_23.1)) h4 fun h34 => zg (ct h33 hg17) (g1 34 (ji e_23.1) h34 fun h35 => zg (ct h33 hg17) (g1 4 (.ref (.bx 4) 0 [1] (ji e_23.2)) h4 fun h36 => zg (ct h33 hg17) (g1 36 (ji e_23.2) h36 fun h37 => zg (ct h33 hg17) (g2 35 37 (jb (decide (e_23.1 ≥ e_23.2))) h35 h37 fun h38 => g2 33 38 (jb (decide (e_23.1 ≥ e_23.2))) (ct h33 hg17) h38 fun h39 => gm h39 fun h40 => zP (c := decide (e_23.1 ≥ e_23.2)) h (fun hg24 h => ?_) (fun hg24 h => ?_))))))
     · iterate 3 refine ym (ct h40 hg24) ?_
       iterate 9 refine Z0 rfl ?_
       refine ym (ct h40 hg24) (g2 40 53 (jb true) (ct h40 hg24) (rf (.tup [])) fun h54 => gz [(1, _), (2, _), (3, _), (54, _)] ⟨h1, h2, h3, h54⟩ ?_)
       rintro s ⟨h1, h2, h3, h54⟩
       exact Wm H x_1 x_12 (yK F x_1 k) ih true _ ⟨h1, h2, h3, h54⟩ h
     refine zg (ct h40 hg24) (gm h3 fun h41 => zg (ct h40 hg24) (g1 41 (jb (decide (x_12 > 0))) h41 fun h42 => zg (ct h40 hg24) (gm h42 fun h43 => zP (c := decide (x_12 > 0)) h (fun hg27 h => ?_) (fun hg27 h => ?_))))
     · refine zg (ct h43 hg27) (g1 1 (.ref (.bx 1) 0 [1] (eP x_1.2)) h1 fun h44 => zg (ct h43 hg27) (g1 44 (eP x_1.2) h44 fun h45 => zg (ct h43 hg27) (gm h3 fun h46 => zg (ct h43 hg27) (g1 46 (ji (w64 (x_12 - 1))) h46 fun h47 => ?_))))
       obtain ⟨e_31, E_e_31, h⟩ := bind_some h
       refine zg (ct h43 hg27) (gv (.ref .sh 0 [] (.agg [ji e_31.1, ji e_31.2])) (yu (t := .sh) (lo := 0) (xs := x_1.2) h45 h47 E_e_31 rfl rfl) fun h48 => zg (ct h43 hg27) (g1 48 (.agg [ji e_31.1, ji e_31.2]) h48 fun h49 => zg (ct h43 hg27) (g1 4 (.agg [ji e_23.1, ji e_23.2]) h4 fun h50 => ?_)))
       obtain ⟨r_32, E_r_32, h⟩ := bind_some h
       refine zg (ct h43 hg27) (zB (m := 0) (al := false) (r := Enc.enc (r_32 : Bool)) [Enc.enc (e_31 : (Int × Int)), Enc.enc (e_23 : (Int × Int))] (zd (v := .agg [ji e_31.1, ji e_31.2]) h49 rfl (Enc.erase_enc (e_31 : (Int × Int))) (zd (v := .agg [ji e_23.1, ji e_23.2]) h50 rfl (Enc.erase_enc (e_23 : (Int × Int))) zw)) (H.c50 _ _ _ E_r_32) H.g50 rfl rfl rfl rfl (zg (ct h43 hg27) (g1 51 (jb (!r_32)) (rf (jb r_32)) fun h52 => zg (ct h40 hg24) (g2 43 52 (jb (!r_32)) (ct h43 hg27) h52 fun h53 => g2 40 53 (jb (!r_32)) (ct h40 hg24) h53 fun h54 => gz [(1, _), (2, _), (3, _), (54, _)] ⟨h1, h2, h3, h54⟩ ?_))))
       rintro s ⟨h1, h2, h3, h54⟩
       exact Wm H x_1 x_12 (yK F x_1 k) ih (!r_32) _ ⟨h1, h2, h3, h54⟩ h
     iterate 9 refine ym (ct h43 hg27) ?_
     refine zg (ct h40 hg24) (g2 43 52 (jb false) (ct h43 hg27) (rf (.tup [])) fun h53 => g2 40 53 (jb false) (ct h40 hg24) h53 fun h54 => gz [(1, _), (2, _), (3, _), (54, _)] ⟨h1, h2, h3, h54⟩ ?_)
     rintro s ⟨h1, h2, h3, h54⟩
     exact Wm H x_1 x_12 (yK F x_1 k) ih false _ ⟨h1, h2, h3, h54⟩ h
   refine .exit (.esq (.elp (.ebk (.nsq (.seq (rg (g1 1 (.ref (.bx 1) 0 [0] (ji x_1.1)) h1 fun h55 => g1 55 (ji x_1.1) h55 fun h56 => ?_)))))))
   obtain ⟨r_33, E_r_33, h⟩ := bind_some h
   refine zB (m := 0) (al := false) (r := Enc.enc (r_33 : Bool)) [Enc.enc (x_1.1 : Int), Enc.enc (0 : Int), Enc.enc (8 : Int)] (zd (v := ji x_1.1) h56 rfl rfl (zd (v := ji 0) rfl rfl rfl (zd (v := ji 8) rfl rfl rfl zw))) (H.c49 _ _ _ _ E_r_33) H.g49 rfl rfl rfl rfl (gm (rf (jb r_33)) fun h2 => gq (.nsq (.ret ?_)))
   have hr := Option.some.inj h
   subst hr
   exact rrA (zf h2) rfl
def vf (F : Nat) (x_1 : GR) : Option Bool :=
 yK F x_1 F 0
theorem t25 (H : H25 D σ F) (x_1 : GR) (s : Nat → V) (hs : zl [(0, gV x_1)] s) (h : vf F x_1 = some r) : Run D σ (R25 r) (.run A25 []) s := by
 unfold vf at h
 have h0 := hs
 refine .seq (zt (zR ?_))
 refine ez [(0, _), (1, _)] ⟨za h0 rfl mIE, zb rfl⟩ ?_
 rintro s ⟨h0, h1⟩
 refine xB (gV x_1) (zy h0 rfl) h1 rfl (g0 (jb false) fun h2 => gq (.nsq (.seq (.seq (rg (g0 (ji 0) fun h3 => gq (.nsq (.block (.loop ?_)))))))))
 exact zgi H x_1 F 0 _ ⟨rfl, h2, h3⟩ h
end
def e25 (F : Nat) : Ent := ent 25 (fun (x : (GR × Unit)) => vf F x.1) (fun (r : Bool) => (Enc.enc (r : Bool))) 0 false []
abbrev C25 (D : List V → Option V) (F : Nat) : Prop := ∀ (x0 : GR) r, vf F x0 = some r → D [Enc.enc x0] = some (Enc.enc (r : Bool))
theorem p25 {F : Nat} : C25 (e25 F).den F := fun x0 _ h => zJ (x0, ()) h
theorem o25 {D : Den} {σ : Sig} {F : Nat} (hF : zu Try.prog D σ) (H : H25 D σ F) : (e25 F).Ok Try.prog := by
 refine yd (f := 25) (show unk 25 = 25 from rfl) (fun args r h => ?_) ⟨Try.f25, Try.func25, rfl, rfl⟩
 obtain ⟨⟨x0, _⟩, y, rfl, hy, rfl⟩ := zH h
 exact zk hF (by kernel_rfl) Try.func25 rfl c25 (show 1 ≤ Try.f25.ntmps by decide) (t25 H x0 _ rfl hy)
def zl7 : AC := (.cond (.t 9) .skip (.exit 0))
def zni : AC := (.cond (.t 17) (.seq (.reg [] [jv 4 (.mov kt)] []) .ret) .skip)
def zoa : AC := (.reg [] [jm 10 5, jv 11 (.bin .add (.t 10) (jn 1)), jm 5 11] [])
def zpG : AC := (.seq (.block 1 (.seq (.reg [] [jm 12 0, jm 13 5, jv 14 (.idx (.t 12) (.t 13) 1), jv 15 (.load .s (.t 14)), jm 16 1, jv 17 (.bin .eql (.t 15) (.t 16))] []) zni)) zoa)
def zgJ : AC := (.seq (.seq (.reg [] [jm 6 5, jm 7 0, jv 8 (.len (.t 7)), jv 9 (.bin .lss (.t 6) (.t 8))] []) zl7) zpG)
def ziA : AC := (.seq (.reg [] [jv 4 (.mov kf)] []) .ret)
def zk7 : AC := (.block 0 (.loop zgJ))
def zlL : AC := (.seq (.seq (.reg [] [jv 5 (.mov (jn 0))] []) zk7) ziA)
def A53 : AC := (.seq (.reg [] [jv 4 (.mov kf)] []) zlL)
def zrC : List An := []
theorem c53 : cC Try.prog Try.f53.ntmps zrC (Try.f53.body.getD .skip) = some A53 := by kernel_rfl
structure H53 (D : Den) (σ : Sig) (F : Nat) : Prop where
 mk ::
abbrev R53 (r : Bool) : (Nat → V) → Prop := RR Try.prog [.tmp 4] 0 false (Enc.enc (r : Bool))
section
variable {D : Den} {σ : Sig} {F : Nat} {r : Bool}
def uu (F : Nat) (x_1 : LI) (x_2 : Int)  : Nat → Int → Option Bool
 | 0, _ => none
 | k + 1, x_4 =>
   bif decide (x_4 < (x_1.length : Int)) then
    (idx x_1 x_4).bind fun e_6 =>
    bif (e_6 == x_2) then
     some true
    else
     (uu F x_1 x_2 k) (w64 (x_4 + 1))
   else
    some false
theorem zfV (H : H53 D σ F) (x_1 : LI) (x_2 : Int)  : ∀ (k : Nat) (x_4 : Int) (s : Nat → V), zl [(0, eL x_1), (1, ji x_2), (4, jb false), (5, ji x_4)] s → uu F x_1 x_2 k x_4 = some r → Run D σ (R53 r) (.run zgJ [.lp zgJ, .bk 0, .sq ziA]) s := by
 intro k
 induction k with
 | zero => intro x_4 s _ h; exact nm h
 | succ k ih =>
   intro x_4 s hs h
   rw [uu] at h
   obtain ⟨h0, h1, h4, h5⟩ := hs
   refine .seq (.seq (rg (gm h5 fun h6 => gm h0 fun h7 => gv (ji (x_1.length : Int)) (yo (xs := x_1) h7) fun h8 => g2 6 8 (jb (decide (x_4 < (x_1.length : Int)))) h6 h8 fun h9 => gq (.nsq (zi (t := decide (x_4 < (x_1.length : Int))) h9 h (fun h => ?_) (fun h => ?_))))))
   · refine .skip (.nsq (.seq (.block (.seq (rg (gm h0 fun h12 => gm h5 fun h13 => ?_))))))
     obtain ⟨e_6, E_e_6, h⟩ := bind_some h
     refine gv (.ref .sh 0 [] (ji e_6)) (yu (t := .sh) (lo := 0) (xs := x_1) h12 h13 E_e_6 rfl rfl) fun h14 => g1 14 (ji e_6) h14 fun h15 => gm h1 fun h16 => g2 15 16 (jb (e_6 == x_2)) h15 h16 fun h17 => gq (.nsq (zi (t := (e_6 == x_2)) h17 h (fun h => ?_) (fun h => ?_)))
     · refine .seq (rg (g0 (jb true) fun h4 => gq (.nsq (.ret ?_))))
       have hr := Option.some.inj h
       subst hr
       exact rrA (zf h4) rfl
     refine .skip (.nbk (.nsq (rg (gm h5 fun h10 => g1 10 (ji (w64 (x_4 + 1))) h10 fun h11 => gm h11 fun h5 => gq (.nlp ?_)))))
     exact ih (w64 (x_4 + 1)) _ ⟨h0, h1, h4, h5⟩ h
   refine .exit (.esq (.elp (.ebk (.nsq (.seq (rg (g0 (jb false) fun h4 => gq (.nsq (.ret ?_)))))))))
   have hr := Option.some.inj h
   subst hr
   exact rrA (zf h4) rfl
def uS (F : Nat) (x_1 : LI) (x_2 : Int) : Option Bool :=
 uu F x_1 x_2 F 0
theorem t53 (H : H53 D σ F) (x_1 : LI) (x_2 : Int) (s : Nat → V) (hs : zl [(0, eL x_1), (1, ji x_2)] s) (h : uS F x_1 x_2 = some r) : Run D σ (R53 r) (.run A53 []) s := by
 unfold uS at h
 obtain ⟨h0, h1⟩ := hs
 refine .seq (rg (g0 (jb false) fun h4 => gq (.nsq (.seq (.seq (rg (g0 (ji 0) fun h5 => gq (.nsq (.block (.loop ?_))))))))))
 exact zfV H x_1 x_2 F 0 _ ⟨h0, h1, h4, h5⟩ h
end
def e53 (F : Nat) : Ent := ent 53 (fun (x : (LI × Int × Unit)) => uS F x.1 x.2.1) (fun (r : Bool) => (Enc.enc (r : Bool))) 0 false []
abbrev C53 (D : List V → Option V) (F : Nat) : Prop := ∀ (x0 : LI) (x1 : Int) r, uS F x0 x1 = some r → D [Enc.enc x0, Enc.enc x1] = some (Enc.enc (r : Bool))
theorem p53 {F : Nat} : C53 (e53 F).den F := fun x0 x1 _ h => zJ (x0, x1, ()) h
theorem o53 {D : Den} {σ : Sig} {F : Nat} (hF : zu Try.prog D σ) (H : H53 D σ F) : (e53 F).Ok Try.prog := by
 refine yd (f := 53) (show unk 53 = 53 from rfl) (fun args r h => ?_) ⟨Try.f53, Try.func53, rfl, rfl⟩
 obtain ⟨⟨x0, x1, _⟩, y, rfl, hy, rfl⟩ := zH h
 exact zk hF (by kernel_rfl) Try.func53 rfl c53 (show 2 ≤ Try.f53.ntmps by decide) (t53 H x0 x1 _ ⟨rfl, rfl⟩ hy)
def zmQ : AC := (.cond (.t 9) .skip (.exit 0))
def zme : AC := (.cond (.t 15) (.seq (.reg [] [jv 4 (.mov kf)] []) .ret) .skip)
def zm4 : AC := (.reg [] [jm 10 5, jv 11 (.bin .add (.t 10) (jn 1)), jm 5 11] [])
def zkV : AC := (.seq (.block 1 (.seq (.reg [] [jm 12 1, jm 13 5, jx 14 (.call (jf 53) [.t 12, .t 13]), jv 15 (.un .not (.t 14))] []) zme)) zm4)
def ze5 : AC := (.seq (.seq (.reg [] [jm 6 5, jv 7 (.fld (.t 2) 0 0), jv 8 (.load .s (.t 7)), jv 9 (.bin .lss (.t 6) (.t 8))] []) zmQ) zkV)
def zix : AC := (.seq (.reg [] [jm 16 1, jv 17 (.len (.t 16)), jv 18 (.fld (.t 2) 0 0), jv 19 (.load .s (.t 18)), jv 20 (.bin .eql (.t 17) (.t 19)), jm 4 20] []) .ret)
def zoT : AC := (.block 0 (.loop ze5))
def zlB : AC := (.seq (.seq (.reg [] [jv 5 (.mov (jn 0))] []) zoT) zix)
def A51 : AC := (.seq (.reg [.clr [2]] [jx 2 (.box (.t 0)), jv 4 (.mov kf)] []) zlB)
def zrr : List An := [⟨0, [.clr [2]], [], [], []⟩]
theorem c51 : cC Try.prog Try.f51.ntmps zrr (Try.f51.body.getD .skip) = some A51 := by kernel_rfl
structure H51 (D : Den) (σ : Sig) (F : Nat) : Prop where
 c53 : C53 (D 53) F
 g53 : σ 53 = some (0, false)
abbrev R51 (r : Bool) : (Nat → V) → Prop := RR Try.prog [.tmp 4] 0 false (Enc.enc (r : Bool))
section
variable {D : Den} {σ : Sig} {F : Nat} {r : Bool}
def vK (F : Nat) (x_2 : LI) (x_1 : GR)  : Nat → Int → Option Bool
 | 0, _ => none
 | k + 1, x_4 =>
   bif decide (x_4 < x_1.1) then
    (uS F x_2 x_4).bind fun r_6 =>
    bif (!r_6) then
     some false
    else
     (vK F x_2 x_1 k) (w64 (x_4 + 1))
   else
    some ((x_2.length : Int) == x_1.1)
theorem zgf (H : H51 D σ F) (x_2 : LI) (x_1 : GR)  : ∀ (k : Nat) (x_4 : Int) (s : Nat → V), zl [(1, eL x_2), (2, bG 2 x_1), (4, jb false), (5, ji x_4)] s → vK F x_2 x_1 k x_4 = some r → Run D σ (R51 r) (.run ze5 [.lp ze5, .bk 0, .sq zix]) s := by
 intro k
 induction k with
 | zero => intro x_4 s _ h; exact nm h
 | succ k ih =>
   intro x_4 s hs h
   rw [vK] at h
   obtain ⟨h1, h2, h4, h5⟩ := hs
   refine .seq (.seq (rg (gm h5 fun h6 => g1 2 (.ref (.bx 2) 0 [0] (ji x_1.1)) h2 fun h7 => g1 7 (ji x_1.1) h7 fun h8 => g2 6 8 (jb (decide (x_4 < x_1.1))) h6 h8 fun h9 => gq (.nsq (zi (t := decide (x_4 < x_1.1)) h9 h (fun h => ?_) (fun h => ?_))))))
   · refine .skip (.nsq (.seq (.block (.seq (rg (gm h1 fun h12 => gm h5 fun h13 => ?_))))))
     obtain ⟨r_6, E_r_6, h⟩ := bind_some h
     refine zB (m := 0) (al := false) (r := Enc.enc (r_6 : Bool)) [eL x_2, Enc.enc (x_4 : Int)] (zd (v := eL x_2) h12 rfl (Enc.erase_enc (x_2 : LI)) (zd (v := ji x_4) h13 rfl rfl zw)) (H.c53 _ _ _ E_r_6) H.g53 rfl rfl rfl rfl (g1 14 (jb (!r_6)) (rf (jb r_6)) fun h15 => gq (.nsq (zi (t := (!r_6)) h15 h (fun h => ?_) (fun h => ?_))))
     · refine .seq (rg (g0 (jb false) fun h4 => gq (.nsq (.ret ?_))))
       have hr := Option.some.inj h
       subst hr
       exact rrA (zf h4) rfl
     refine .skip (.nbk (.nsq (rg (gm h5 fun h10 => g1 10 (ji (w64 (x_4 + 1))) h10 fun h11 => gm h11 fun h5 => gq (.nlp ?_)))))
     exact ih (w64 (x_4 + 1)) _ ⟨h1, h2, h4, h5⟩ h
   refine .exit (.esq (.elp (.ebk (.nsq (.seq (rg (gm h1 fun h16 => gv (ji (x_2.length : Int)) (yo (xs := x_2) h16) fun h17 => g1 2 (.ref (.bx 2) 0 [0] (ji x_1.1)) h2 fun h18 => g1 18 (ji x_1.1) h18 fun h19 => g2 17 19 (jb ((x_2.length : Int) == x_1.1)) h17 h19 fun h20 => gm h20 fun h4 => gq (.nsq (.ret ?_)))))))))
   have hr := Option.some.inj h
   subst hr
   exact rrA (zf h4) rfl
def Yi (F : Nat) (x_1 : GR) (x_2 : LI) : Option Bool :=
 vK F x_2 x_1 F 0
theorem t51 (H : H51 D σ F) (x_1 : GR) (x_2 : LI) (s : Nat → V) (hs : zl [(0, gV x_1), (1, eL x_2)] s) (h : Yi F x_1 x_2 = some r) : Run D σ (R51 r) (.run A51 []) s := by
 unfold Yi at h
 obtain ⟨h0, h1⟩ := hs
 refine .seq (zt (zR ?_))
 refine ez [(0, _), (1, _), (2, _)] ⟨za h0 rfl mIE, za h1 rfl me, zb rfl⟩ ?_
 rintro s ⟨h0, h1, h2⟩
 refine xB (gV x_1) (zy h0 rfl) h2 rfl (g0 (jb false) fun h4 => gq (.nsq (.seq (.seq (rg (g0 (ji 0) fun h5 => gq (.nsq (.block (.loop ?_)))))))))
 exact zgf H x_2 x_1 F 0 _ ⟨h1, rfl, h4, h5⟩ h
end
def e51 (F : Nat) : Ent := ent 51 (fun (x : (GR × LI × Unit)) => Yi F x.1 x.2.1) (fun (r : Bool) => (Enc.enc (r : Bool))) 0 false []
abbrev C51 (D : List V → Option V) (F : Nat) : Prop := ∀ (x0 : GR) (x1 : LI) r, Yi F x0 x1 = some r → D [Enc.enc x0, Enc.enc x1] = some (Enc.enc (r : Bool))
theorem p51 {F : Nat} : C51 (e51 F).den F := fun x0 x1 _ h => zJ (x0, x1, ()) h
theorem o51 {D : Den} {σ : Sig} {F : Nat} (hF : zu Try.prog D σ) (H : H51 D σ F) : (e51 F).Ok Try.prog := by
 refine yd (f := 51) (show unk 51 = 51 from rfl) (fun args r h => ?_) ⟨Try.f51, Try.func51, rfl, rfl⟩
 obtain ⟨⟨x0, x1, _⟩, y, rfl, hy, rfl⟩ := zH h
 exact zk hF (by kernel_rfl) Try.func51 rfl c51 (show 2 ≤ Try.f51.ntmps by decide) (t51 H x0 x1 _ ⟨rfl, rfl⟩ hy)
def zoN : AC := (.seq (.reg [] [jv 5 (.load (.ag [.s, .p]) (.t 2)), jm 6 1, jx 7 (.call (jf 51) [.t 5, .t 6]), jm 4 7] []) .ret)
def A26 : AC := (.seq (.reg [.clr [2]] [jx 2 (.box (.t 0)), jv 4 (.mov kf)] []) zoN)
def zqN : List An := [⟨0, [.clr [2]], [], [], []⟩]
theorem c26 : cC Try.prog Try.f26.ntmps zqN (Try.f26.body.getD .skip) = some A26 := by kernel_rfl
structure H26 (D : Den) (σ : Sig) (F : Nat) : Prop where
 c51 : C51 (D 51) F
 g51 : σ 51 = some (0, false)
abbrev R26 (r : Bool) : (Nat → V) → Prop := RR Try.prog [.tmp 4] 0 false (Enc.enc (r : Bool))
section
variable {D : Den} {σ : Sig} {F : Nat} {r : Bool}
def vB (F : Nat) (x_1 : GR) (x_2 : LI) : Option Bool :=
 (Yi F x_1 x_2).bind fun r_3 =>
 some r_3
theorem t26 (H : H26 D σ F) (x_1 : GR) (x_2 : LI) (s : Nat → V) (hs : zl [(0, gV x_1), (1, eL x_2)] s) (h : vB F x_1 x_2 = some r) : Run D σ (R26 r) (.run A26 []) s := by
 unfold vB at h
 obtain ⟨h0, h1⟩ := hs
 refine .seq (zt (zR ?_))
 refine ez [(0, _), (1, _), (2, _)] ⟨za h0 rfl mIE, za h1 rfl me, zb rfl⟩ ?_
 rintro s ⟨h0, h1, h2⟩
 refine xB (gV x_1) (zy h0 rfl) h2 rfl (g0 (jb false) fun h4 => gq (.nsq (.seq (rg (g1 2 (gV x_1) (rf (bG 2 x_1)) fun h5 => gm h1 fun h6 => ?_)))))
 obtain ⟨r_3, E_r_3, h⟩ := bind_some h
 refine zB (m := 0) (al := false) (r := Enc.enc (r_3 : Bool)) [Enc.enc (x_1 : GR), eL x_2] (zd (v := gV x_1) h5 rfl (Enc.erase_enc (x_1 : GR)) (zd (v := eL x_2) h6 rfl (Enc.erase_enc (x_2 : LI)) zw)) (H.c51 _ _ _ E_r_3) H.g51 rfl rfl rfl rfl (gm (rf (jb r_3)) fun h4 => gq (.nsq (.ret ?_)))
 have hr := Option.some.inj h
 subst hr
 exact rrA (zf h4) rfl
end
def e26 (F : Nat) : Ent := ent 26 (fun (x : (GR × LI × Unit)) => vB F x.1 x.2.1) (fun (r : Bool) => (Enc.enc (r : Bool))) 0 false []
abbrev C26 (D : List V → Option V) (F : Nat) : Prop := ∀ (x0 : GR) (x1 : LI) r, vB F x0 x1 = some r → D [Enc.enc x0, Enc.enc x1] = some (Enc.enc (r : Bool))
theorem p26 {F : Nat} : C26 (e26 F).den F := fun x0 x1 _ h => zJ (x0, x1, ()) h
theorem o26 {D : Den} {σ : Sig} {F : Nat} (hF : zu Try.prog D σ) (H : H26 D σ F) : (e26 F).Ok Try.prog := by
 refine yd (f := 26) (show unk 26 = 26 from rfl) (fun args r h => ?_) ⟨Try.f26, Try.func26, rfl, rfl⟩
 obtain ⟨⟨x0, x1, _⟩, y, rfl, hy, rfl⟩ := zH h
 exact zk hF (by kernel_rfl) Try.func26 rfl c26 (show 2 ≤ Try.f26.ntmps by decide) (t26 H x0 x1 _ ⟨rfl, rfl⟩ hy)
def zh8 : AC := (.cond (.t 31) (.seq (.reg [] [jm 32 0, jm 4 32] []) .ret) .skip)
def ziw : AC := (.seq (.reg [.clr [33, 37, 39, 40, 44]] [jy 33 (.lit i0 0 []), jm 34 0, jm 35 5, jv 36 (.slice (.t 34) none (some (.t 35)) 1), jy 37 (.appS .s (.t 33) (.t 36)), jm 38 1, jx 39 (.lit i0 1 [(0, 0, .t 38)]), jy 40 (.appS .s (.t 37) (.t 39)), jm 41 0, jm 42 5, jv 43 (.slice (.t 41) (some (.t 42)) none 1), jx 44 (.appS .s (.t 40) (.t 43)), jm 4 44] [.home 44 4]) .ret)
def ziu : AC := (.cond (.t 17) .skip (.exit 0))
def ziF : AC := (.block 1 (.reg [] [jm 18 5, jv 19 (.bin .add (.t 18) (jn 1)), jm 5 19] []))
def LF : AC := (.seq (.seq (.reg [] [jm 6 5, jm 7 0, jv 8 (.len (.t 7)), jv 9 (.bin .lss (.t 6) (.t 8)), jm 10 9, jg 11 10 true (.mov (.t 0)), jg 12 10 true (.mov (.t 5)), jg 13 10 true (.idx (.t 11) (.t 12) 1), jg 14 10 true (.load .s (.t 13)), jg 15 10 true (.mov (.t 1)), jg 16 10 true (.bin .lss (.t 14) (.t 15)), jv 17 (.pick (.t 10) (.t 16) kf)] []) ziu) ziF)
def zcm : AC := (.seq (.seq (.reg [] [jm 20 5, jm 21 0, jv 22 (.len (.t 21)), jv 23 (.bin .lss (.t 20) (.t 22)), jm 24 23, jg 25 24 true (.mov (.t 0)), jg 26 24 true (.mov (.t 5)), jg 27 24 true (.idx (.t 25) (.t 26) 1), jg 28 24 true (.load .s (.t 27)), jg 29 24 true (.mov (.t 1)), jg 30 24 true (.bin .eql (.t 28) (.t 29)), jv 31 (.pick (.t 24) (.t 30) kf)] []) zh8) ziw)
def zoX : AC := (.seq (.block 0 (.loop LF)) zcm)
def zmJ : AC := (.seq (.reg [] [jv 5 (.mov (jn 0))] []) zoX)
def A54 : AC := (.seq (.reg [] [jv 4 (.mov (.k (.sl .nl .s 0 [])))] []) zmJ)
def zqo : List An := [⟨6, [.clr [33, 37, 39, 40, 44]], [0, 4, 7], [4, 7, 11], [.home 44 4]⟩]
theorem c54 : cC Try.prog Try.f54.ntmps zqo (Try.f54.body.getD .skip) = some A54 := by kernel_rfl
structure H54 (D : Den) (σ : Sig) (F : Nat) : Prop where
 mk ::
abbrev R54 (r : LI) : (Nat → V) → Prop := RR Try.prog [.tmp 4] 0 true (eL r)
section
variable {D : Den} {σ : Sig} {F : Nat} {r : LI}
def Zs (F : Nat) (x_1 : LI) (x_2 : Int) (x_6 : Int)  (x_13 : Bool) : Option LI :=
 bif x_13 then
  some x_1
 else
  (sub x_1 0 x_6).bind fun sub_14 =>
  (wM [] sub_14).bind fun ap_15 =>
  (wM ap_15 [x_2]).bind fun ap_16 =>
  (sub x_1 x_6 (x_1.length : Int)).bind fun sub_17 =>
  (wM ap_16 sub_17).bind fun ap_18 =>
  some ap_18
theorem QR (H : H54 D σ F) (x_1 : LI) (x_2 : Int) (x_6 : Int)  (x_13 : Bool) (s : Nat → V) (hs : zl [(0, eL x_1), (1, ji x_2), (4, nI), (5, ji x_6), (31, jb x_13)] s) (h : Zs F x_1 x_2 x_6  x_13 = some r) : Run D σ (R54 r) (.nrm [.sq zh8, .sq ziw]) s := by
 unfold Zs at h
 obtain ⟨h0, h1, h4, h5, h31⟩ := hs
 refine .nsq (zi (t := x_13) h31 h (fun h => ?_) (fun h => ?_))
 · refine .seq (rg (gm h0 fun h32 => gm h32 fun h4 => gq (.nsq (.ret ?_))))
   have hr := Option.some.inj h
   subst hr
   exact rrA (zf h4) (xL (yO (x := (x_1 : LI))))
 refine .skip (.nsq (.seq (zt (zR ?_))))
 refine ez [(0, _), (1, _), (4, _), (5, _), (33, _), (37, _), (39, _), (40, _), (44, _)] ⟨za h0 rfl me, za h1 rfl mi, za h4 rfl rfl, za h5 rfl mi, zb rfl, zb rfl, zb rfl, zb rfl, zb rfl⟩ ?_
 rintro s ⟨h0, h1, h4, h5, h33, h37, h39, h40, h44⟩
 refine Kc [] [] trivial rfl rfl h33 (gm h0 fun h34 => gm h5 fun h35 => ?_)
 obtain ⟨sub_14, E_sub_14, h⟩ := bind_some h
 refine gv (eL sub_14) (Wj (xs := x_1) h34 (vM) (v5 h35) E_sub_14 rfl) fun h36 => ?_
 obtain ⟨ap_15, E_ap_15, h⟩ := bind_some h
 refine Xz (p := []) (xs := []) (ys := (sub_14 : LI)) (t2 := .sh) (lo2 := 0) rfl h36 rfl h37 rfl E_ap_15 (gm h1 fun h38 => xf [(38, ji x_2)] [Enc.enc (x_2 : Int)] h38 rfl rfl h39 ?_)
 obtain ⟨ap_16, E_ap_16, h⟩ := bind_some h
 refine Xz (p := []) (xs := ap_15) (ys := ([x_2] : LI)) (t2 := .at 39 []) (lo2 := 0) rfl rfl rfl h40 rfl E_ap_16 (gm h0 fun h41 => gm h5 fun h42 => ?_)
 obtain ⟨sub_17, E_sub_17, h⟩ := bind_some h
 refine gv (eL sub_17) (Wj (xs := x_1) h41 (v5 h42) (vM) E_sub_17 rfl) fun h43 => ?_
 obtain ⟨ap_18, E_ap_18, h⟩ := bind_some h
 refine Xz (p := []) (xs := ap_16) (ys := (sub_17 : LI)) (t2 := .sh) (lo2 := 0) rfl h43 rfl h44 rfl E_ap_18 (gm (rf (oI 44 [] (.of ap_18))) fun h4 => yE (yq (r := 44) (x := 4) (v := _) h4 rfl (fun s_2 hg_2 => ?_)))
 refine ez [(4, oI 4 [] (.of ap_18))] (hg_2 4 _ _ h4 (zm (r := 44) (p := []) rfl rfl)) ?_
 rintro s h4
 refine .nsq (.ret ?_)
 have hr := Option.some.inj h
 subst hr
 exact rrA (zf h4) (xL (wz (o := .of ap_18)))
def Zr (F : Nat) (x_1 : LI) (x_2 : Int) (x_6 : Int) (c1 : Int → Option LI) (x_11 : Bool) : Option LI :=
 bif x_11 then
  c1 (w64 (x_6 + 1))
 else
  bif decide (x_6 < (x_1.length : Int)) then
   (idx x_1 x_6).bind fun e_19 =>
   Zs F x_1 x_2 x_6 (e_19 == x_2)
  else
   Zs F x_1 x_2 x_6 false
theorem QM (H : H54 D σ F) (x_1 : LI) (x_2 : Int) (x_6 : Int) (c1 : Int → Option LI) (Hc1 : ∀ (x_6 : Int) (s : Nat → V), zl [(0, eL x_1), (1, ji x_2), (4, nI), (5, ji x_6)] s → c1 x_6 = some r → Run D σ (R54 r) (.run LF [.lp LF, .bk 0, .sq zcm]) s) (x_11 : Bool) (s : Nat → V) (hs : zl [(0, eL x_1), (1, ji x_2), (4, nI), (5, ji x_6), (17, jb x_11)] s) (h : Zr F x_1 x_2 x_6 c1 x_11 = some r) : Run D σ (R54 r) (.nrm [.sq ziu, .sq ziF, .lp LF, .bk 0, .sq zcm]) s := by
 unfold Zr at h
 obtain ⟨h0, h1, h4, h5, h17⟩ := hs
 refine .nsq (zi (t := x_11) h17 h (fun h => ?_) (fun h => ?_))
 · refine .skip (.nsq (.block (rg (gm h5 fun h18 => g1 18 (ji (w64 (x_6 + 1))) h18 fun h19 => gm h19 fun h5 => gq (.nbk (.nlp ?_))))))
   exact Hc1 (w64 (x_6 + 1)) _ ⟨h0, h1, h4, h5⟩ h
 refine .exit (.esq (.elp (.ebk (.nsq (.seq (.seq (rg (gm h5 fun h20 => gm h0 fun h21 => gv (ji (x_1.length : Int)) (yo (xs := x_1) h21) fun h22 => g2 20 22 (jb (decide (x_6 < (x_1.length : Int)))) h20 h22 fun h23 => gm h23 fun h24 => zP (c := decide (x_6 < (x_1.length : Int))) h (fun hg5 h => ?_) (fun hg5 h => ?_)))))))))
 · refine zg (ct h24 hg5) (gm h0 fun h25 => zg (ct h24 hg5) (gm h5 fun h26 => ?_))
   obtain ⟨e_19, E_e_19, h⟩ := bind_some h
   refine zg (ct h24 hg5) (gv (.ref .sh 0 [] (ji e_19)) (yu (t := .sh) (lo := 0) (xs := x_1) h25 h26 E_e_19 rfl rfl) fun h27 => zg (ct h24 hg5) (g1 27 (ji e_19) h27 fun h28 => zg (ct h24 hg5) (gm h1 fun h29 => zg (ct h24 hg5) (g2 28 29 (jb (e_19 == x_2)) h28 h29 fun h30 => g2 24 30 (jb (e_19 == x_2)) (ct h24 hg5) h30 fun h31 => gq ?_))))
   exact QR H x_1 x_2 x_6 (e_19 == x_2) _ ⟨h0, h1, h4, h5, h31⟩ h
 iterate 6 refine ym (ct h24 hg5) ?_
 refine g2 24 30 (jb false) (ct h24 hg5) (rf (.tup [])) fun h31 => gq ?_
 exact QR H x_1 x_2 x_6 false _ ⟨h0, h1, h4, h5, h31⟩ h
def wH (F : Nat) (x_1 : LI) (x_2 : Int)  : Nat → Int → Option LI
 | 0, _ => none
 | k + 1, x_6 =>
   bif decide (x_6 < (x_1.length : Int)) then
    (idx x_1 x_6).bind fun e_20 =>
    Zr F x_1 x_2 x_6 (wH F x_1 x_2 k) (decide (e_20 < x_2))
   else
    Zr F x_1 x_2 x_6 (wH F x_1 x_2 k) false
theorem zgu (H : H54 D σ F) (x_1 : LI) (x_2 : Int)  : ∀ (k : Nat) (x_6 : Int) (s : Nat → V), zl [(0, eL x_1), (1, ji x_2), (4, nI), (5, ji x_6)] s → wH F x_1 x_2 k x_6 = some r → Run D σ (R54 r) (.run LF [.lp LF, .bk 0, .sq zcm]) s := by
 intro k
 induction k with
 | zero => intro x_6 s _ h; exact nm h
 | succ k ih =>
   intro x_6 s hs h
   rw [wH] at h
   obtain ⟨h0, h1, h4, h5⟩ := hs
   refine .seq (.seq (rg (gm h5 fun h6 => gm h0 fun h7 => gv (ji (x_1.length : Int)) (yo (xs := x_1) h7) fun h8 => g2 6 8 (jb (decide (x_6 < (x_1.length : Int)))) h6 h8 fun h9 => gm h9 fun h10 => zP (c := decide (x_6 < (x_1.length : Int))) h (fun hg5 h => ?_) (fun hg5 h => ?_))))
   · refine zg (ct h10 hg5) (gm h0 fun h11 => zg (ct h10 hg5) (gm h5 fun h12 => ?_))
     obtain ⟨e_20, E_e_20, h⟩ := bind_some h
     refine zg (ct h10 hg5) (gv (.ref .sh 0 [] (ji e_20)) (yu (t := .sh) (lo := 0) (xs := x_1) h11 h12 E_e_20 rfl rfl) fun h13 => zg (ct h10 hg5) (g1 13 (ji e_20) h13 fun h14 => zg (ct h10 hg5) (gm h1 fun h15 => zg (ct h10 hg5) (g2 14 15 (jb (decide (e_20 < x_2))) h14 h15 fun h16 => g2 10 16 (jb (decide (e_20 < x_2))) (ct h10 hg5) h16 fun h17 => gq ?_))))
     exact QM H x_1 x_2 x_6 (wH F x_1 x_2 k) ih (decide (e_20 < x_2)) _ ⟨h0, h1, h4, h5, h17⟩ h
   iterate 6 refine ym (ct h10 hg5) ?_
   refine g2 10 16 (jb false) (ct h10 hg5) (rf (.tup [])) fun h17 => gq ?_
   exact QM H x_1 x_2 x_6 (wH F x_1 x_2 k) ih false _ ⟨h0, h1, h4, h5, h17⟩ h
def YV (F : Nat) (x_1 : LI) (x_2 : Int) : Option LI :=
 wH F x_1 x_2 F 0
theorem t54 (H : H54 D σ F) (x_1 : LI) (x_2 : Int) (s : Nat → V) (hs : zl [(0, eL x_1), (1, ji x_2)] s) (h : YV F x_1 x_2 = some r) : Run D σ (R54 r) (.run A54 []) s := by
 unfold YV at h
 obtain ⟨h0, h1⟩ := hs
 refine .seq (rg (g0 nI fun h4 => gq (.nsq (.seq (rg (g0 (ji 0) fun h5 => gq (.nsq (.seq (.block (.loop ?_))))))))))
 exact zgu H x_1 x_2 F 0 _ ⟨h0, h1, h4, h5⟩ h
end
def e54 (F : Nat) : Ent := ent 54 (fun (x : (LI × Int × Unit)) => YV F x.1 x.2.1) (fun (r : LI) => (eL r)) 0 true []
abbrev C54 (D : List V → Option V) (F : Nat) : Prop := ∀ (x0 : LI) (x1 : Int) r, YV F x0 x1 = some r → D [Enc.enc x0, Enc.enc x1] = some (eL r)
theorem p54 {F : Nat} : C54 (e54 F).den F := fun x0 x1 _ h => zJ (x0, x1, ()) h
theorem o54 {D : Den} {σ : Sig} {F : Nat} (hF : zu Try.prog D σ) (H : H54 D σ F) : (e54 F).Ok Try.prog := by
 refine yd (f := 54) (show unk 54 = 54 from rfl) (fun args r h => ?_) ⟨Try.f54, Try.func54, rfl, rfl⟩
 obtain ⟨⟨x0, x1, _⟩, y, rfl, hy, rfl⟩ := zH h
 exact zk hF (by kernel_rfl) Try.func54 rfl c54 (show 2 ≤ Try.f54.ntmps by decide) (t54 H x0 x1 _ ⟨rfl, rfl⟩ hy)
end Go.Zq
