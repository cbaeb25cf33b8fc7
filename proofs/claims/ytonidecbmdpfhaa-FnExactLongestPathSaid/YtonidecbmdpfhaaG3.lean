/- Functions of the program as typed functions, and that the machine runs as they say (part 3). No further condition. -/
import Derived.Test.YtonidecbmdpfhaaK3
import Derived.Test.YtonidecbmdpfhaaKC
import Derived.Test.YtonidecbmdpfhaaProg
import Derived.Test.YtonidecbmdpfhaaChecked
import Derived.KernelRfl
import Derived.Test.YtonidecbmdpfhaaG2
set_option linter.unusedVariables false
set_option linter.unusedSimpArgs false
/- Functions of the program, as typed functions, and that the machine runs as they say. -/
namespace Go.Zq
open Go.Proofs Go.Shelf
/- loop.example/g01109/laws.markGraph -/
def A21_2 : AC := (AC.seq (AC.reg [] [(I.mk (some 9) none false (X.v (A.mov (O.t 1)))), (I.mk (some 4) none false (X.v (A.mov (O.t 9))))] []) AC.ret)
def A21_1 : AC := (AC.seq (AC.reg [] [(I.mk (some 5) none false (X.v (A.fld (O.t 2) 1 1))), (I.mk (some 6) none false (X.v (A.load Sh.p (O.t 5)))), (I.mk (some 7) none false (X.v (A.mov (O.t 1)))), (I.mk (some 8) none false (X.mark (O.k (V.fn 55 [] [])) [(O.t 6), (O.t 7)])), (I.mk (some 1) none false (X.v (A.mov (O.t 8))))] []) A21_2)
def A21 : AC := (AC.seq (AC.reg [.clr [2]] [(I.mk (some 2) none false (X.box (O.t 0))), (I.mk (some 4) none false (X.v (A.mov (O.k (V.int IntKind.i64 (Int.ofNat 0))))))] []) A21_1)
def an21 : List An := [{ id := 0, pre := [.clr [2]], ep := [], lin := [], sp := [] }, { id := 1, pre := [], ep := [], lin := [], sp := [3] }]
theorem c21 : cC Try.prog Try.f21.ntmps an21 (Try.f21.body.getD .skip) = some A21 := by kernel_rfl
structure H21 (D : Den) (σ : Sig) (F : Nat) : Prop where
  c55 : ∀ (x0 : (On (Int × Int))) (x1 : Int) r, w_markIntA2S F x0 x1 = some r → D 55 [Arg.arg x0, Enc.enc x1] = some (.tup [Enc.enc (r.1 : Int), encO (.at pinR []) (r.2 : NL (Int × Int))])
  g55 : σ 55 = some (pinR, false)
abbrev R21 (r : Int) : (Nat → V) → Prop := RM Try.prog [.tmp 4] (Enc.enc (r : Int)) .dead
section
variable {D : Den} {σ : Sig} {F : Nat} {r : Int}
def w_markGraph (F : Nat) (a_1 : (Og (Int × Int))) (k_2 : Int) : Option Int :=
  (w_markIntA2S F (On.mk a_1.v : (On (Int × Int))) k_2).bind fun r_3 =>
  some r_3.1
theorem t21 (H : H21 D σ F) (a_1 : (Og (Int × Int))) (k_2 : Int) (s : Nat → V) (hs : Facts [(0, (.agg [(.int .i64 a_1.a), (encO (.at pinR [1]) (a_1.v : NL (Int × Int)))])), (1, (.int .i64 k_2))] s) (h : w_markGraph F a_1 k_2 = some r) : Run D σ (R21 r) (.run A21 []) s := by
  unfold w_markGraph at h
  obtain ⟨h0, h1⟩ := hs
  refine .seq ?_
  refine run_reg ?_
  refine e_clr ?_
  refine e_end ?_
  refine g_box (.agg [(.int .i64 a_1.a), (encO (.at pinR [1]) (a_1.v : NL (Int × Int)))]) (rd_of (keep_clear (s := s) (pk := [2]) h0 rfl (map_agg (maps_cons rfl (maps_cons (map_encO (r := pinR) (p := [1]) rfl rfl) maps_nil)))) rfl) (gone_clear (s := s) (pk := [2]) (t := 2) rfl) rfl ?_
  refine g_v0 (.int .i64 0) rfl rfl ?_
  refine g_end ?_
  refine e_end ?_
  refine renew [(1, (.int .i64 k_2)), (2, (.ref (.bx 2) 0 [] (.agg [(.int .i64 a_1.a), (encO (.at pinR [1]) (a_1.v : NL (Int × Int)))]))), (4, (.int .i64 0))] ⟨(keep_clear (s := s) (pk := [2]) h1 rfl rfl), rfl, rfl⟩ ?_
  rintro s ⟨h1, h2, h4⟩
  refine .nsq ?_
  refine .seq ?_
  refine run_reg ?_
  refine e_end ?_
  refine g_v1 (t := 2) (u := (.ref (.bx 2) 0 [] (.agg [(.int .i64 a_1.a), (encO (.at pinR [1]) (a_1.v : NL (Int × Int)))]))) (.ref (.bx 2) 0 [1] (encO (.at pinR [1]) (a_1.v : NL (Int × Int)))) h2 rfl rfl ?_
  refine g_v (encO (.at pinR [1]) (a_1.v : NL (Int × Int))) (ev_loadN rfl beq_encO) ?_
  refine g_v1 (t := 1) (u := (.int .i64 k_2)) (.int .i64 k_2) h1 rfl rfl ?_
  obtain ⟨r_3, E_r_3, h⟩ := bind_some h
  refine g_mark (v := (encO (.at pinR [1]) (a_1.v : NL (Int × Int)))) rfl (canon_own (o := (a_1.v : NL (Int × Int))) rfl) (rdAll_cons (v := (.int .i64 k_2)) rfl rfl rdAll_nil) (H.c55 _ _ _ E_r_3) H.g55 rfl rfl (fun s_2 hm_2 => ?_)
  refine g_v1 (t := 8) (u := (.int .i64 r_3.1)) (.int .i64 r_3.1) rfl rfl rfl ?_
  refine g_end ?_
  refine e_end ?_
  refine renew [(1, (.int .i64 r_3.1)), (4, (.int .i64 0))] ⟨rfl, (show s_2 4 = (.int .i64 0) from hm_2 4 (.int .i64 0) (.int .i64 0) h4 (rem_map rfl rfl))⟩ ?_
  rintro s ⟨h1, h4⟩
  refine .nsq ?_
  refine .seq ?_
  refine run_reg ?_
  refine e_end ?_
  refine g_v1 (t := 1) (u := (.int .i64 r_3.1)) (.int .i64 r_3.1) h1 rfl rfl ?_
  refine g_v1 (t := 9) (u := (.int .i64 r_3.1)) (.int .i64 r_3.1) rfl rfl rfl ?_
  refine g_end ?_
  refine e_end ?_
  refine renew [(4, (.int .i64 r_3.1))] rfl ?_
  rintro s h4
  refine .nsq ?_
  refine .ret ?_
  have hr := Option.some.inj h
  subst hr
  exact rmD (res_tmp h4)
end
def e21 (F : Nat) : Ent := ⟨21, da (fun (x : ((Og (Int × Int)) × Int × Unit)) => w_markGraph F x.1 x.2.1) (fun (r : Int) => (.tup [Enc.enc (r : Int), .dead])), pinR, false, selF []⟩
theorem p21 {F : Nat} {x0 : (Og (Int × Int))} {x1 : Int} {r : Int} (h : w_markGraph F x0 x1 = some r) : (e21 F).den [Arg.arg x0, Enc.enc x1] = some (.tup [Enc.enc (r : Int), .dead]) := da_put (f := fun (x : ((Og (Int × Int)) × Int × Unit)) => w_markGraph F x.1 x.2.1) (t := fun (r : Int) => (.tup [Enc.enc (r : Int), .dead])) (x0, x1, ()) h
theorem o21 {D : Den} {σ : Sig} {F : Nat} (hF : Fits2 Try.prog D σ) (H : H21 D σ F) : (e21 F).Ok Try.prog := by
  refine ok_of (f := 21) (show unk 21 = 21 from rfl) (fun args r h => ?_) ⟨Try.f21, Try.func21, rfl, rfl⟩
  obtain ⟨⟨x0, x1, _⟩, y, rfl, hy, rfl⟩ := da_open h
  exact contractM_run hF (by kernel_rfl) Try.func21 rfl c21 (all_ok2 rfl rfl) (show 2 ≤ Try.f21.ntmps by decide) (by decide) (t21 H x0 x1 _ ⟨rfl, rfl⟩ hy)
/- loop.example/g01109/laws.markIntS -/
def A22_2 : AC := (AC.cond (O.t 9) AC.skip (AC.exit 0))
def A22_4 : AC := (AC.reg [] [(I.mk (some 16) none false (X.v (A.mov (O.t 1)))), (I.mk (some 17) none false (X.v (A.bin BinOp.add (O.t 16) (O.k (V.int IntKind.i64 (Int.ofNat 1)))))), (I.mk (some 1) none false (X.v (A.mov (O.t 17))))] [])
def A22_5 : AC := (AC.reg [] [(I.mk (some 10) none false (X.v (A.mov (O.t 5)))), (I.mk (some 11) none false (X.v (A.bin BinOp.add (O.t 10) (O.k (V.int IntKind.i64 (Int.ofNat 1)))))), (I.mk (some 5) none false (X.v (A.mov (O.t 11))))] [])
def A22_3 : AC := (AC.seq (AC.block 1 (AC.seq (AC.reg [] [(I.mk (some 12) none false (X.v (A.mov (O.t 0)))), (I.mk (some 13) none false (X.v (A.mov (O.t 5)))), (I.mk (some 14) none false (X.v (A.mov (O.t 1)))), (I.mk (some 15) none false (X.v (A.idx (O.t 12) (O.t 13) 1))), (I.mk none none false (X.store Sh.s (O.t 15) (O.t 14)))] []) A22_4)) A22_5)
def A22_1 : AC := (AC.seq (AC.seq (AC.reg [] [(I.mk (some 6) none false (X.v (A.mov (O.t 5)))), (I.mk (some 7) none false (X.v (A.mov (O.t 0)))), (I.mk (some 8) none false (X.v (A.len (O.t 7)))), (I.mk (some 9) none false (X.v (A.bin BinOp.lss (O.t 6) (O.t 8))))] []) A22_2) A22_3)
def A22_6 : AC := (AC.seq (AC.reg [] [(I.mk (some 18) none false (X.v (A.mov (O.t 1)))), (I.mk (some 4) none false (X.v (A.mov (O.t 18))))] []) AC.ret)
def A22_8 : AC := (AC.block 0 (AC.loop A22_1))
def A22_7 : AC := (AC.seq (AC.seq (AC.reg [] [(I.mk (some 5) none false (X.v (A.mov (O.k (V.int IntKind.i64 (Int.ofNat 0))))))] []) A22_8) A22_6)
def A22 : AC := (AC.seq (AC.reg [] [(I.mk (some 4) none false (X.v (A.mov (O.k (V.int IntKind.i64 (Int.ofNat 0))))))] []) A22_7)
def an22 : List An := []
theorem c22 : cC Try.prog Try.f22.ntmps an22 (Try.f22.body.getD .skip) = some A22 := by kernel_rfl
structure H22 (D : Den) (σ : Sig) (F : Nat) : Prop where
  mk ::
abbrev R22 (r : (Int × NL Int)) : (Nat → V) → Prop := RM Try.prog [.tmp 4] (Enc.enc (r.1 : Int)) (encO (.at pinR []) (r.2 : NL Int))
section
variable {D : Den} {σ : Sig} {F : Nat} {r : (Int × NL Int)}
def w_markIntS_l1 (F : Nat)   : Nat → (NL Int) → Int → Int → Option (Int × NL Int)
  | 0, _, _, _ => none
  | k + 1, a_4, k_5, i_6 =>
    bif decide (i_6 < (a_4.list.length : Int)) then
      (idx a_4.list i_6).bind fun e_8 =>
      (w_markIntS_l1 F k) (NL.set a_4 i_6.toNat k_5) (w64 (k_5 + 1)) (w64 (i_6 + 1))
    else
      some (k_5, a_4)
theorem t_f22_l1 (H : H22 D σ F)   : ∀ (k : Nat) (a_4 : (NL Int)) (k_5 : Int) (i_6 : Int) (s : Nat → V), Facts [(0, (encO (.at pinR []) (a_4 : NL Int))), (1, (.int .i64 k_5)), (4, (.int .i64 0)), (5, (.int .i64 i_6))] s → w_markIntS_l1 F k a_4 k_5 i_6 = some r → Run D σ (R22 r) (.run A22_1 [.lp A22_1, .bk 0, .sq A22_6]) s := by
  intro k
  induction k with
  | zero => intro a_4 k_5 i_6 s _ h; exact nomatch (h : (none : Option _) = some r)
  | succ k ih =>
    intro a_4 k_5 i_6 s hs h
    rw [w_markIntS_l1] at h
    obtain ⟨h0, h1, h4, h5⟩ := hs
    refine .seq ?_
    refine .seq ?_
    refine run_reg ?_
    refine e_end ?_
    refine g_v1 (t := 5) (u := (.int .i64 i_6)) (.int .i64 i_6) h5 rfl rfl ?_
    refine g_v (encO (.at pinR []) (a_4 : NL Int)) (ev_mov h0 ok_encO) ?_
    refine g_v (.int .i64 (a_4.list.length : Int)) (ev_lenO (o := a_4) rfl) ?_
    refine g_v2 (t1 := 6) (t2 := 8) (u1 := (.int .i64 i_6)) (u2 := (.int .i64 (a_4.list.length : Int))) (.bool (decide (i_6 < (a_4.list.length : Int)))) rfl rfl rfl rfl ?_
    refine g_end ?_
    refine e_end ?_
    refine renew [(0, (encO (.at pinR []) (a_4 : NL Int))), (1, (.int .i64 k_5)), (4, (.int .i64 0)), (5, (.int .i64 i_6)), (9, (.bool (decide (i_6 < (a_4.list.length : Int)))))] ⟨h0, h1, h4, h5, rfl⟩ ?_
    rintro s ⟨h0, h1, h4, h5, h9⟩
    refine .nsq ?_
    refine run_cond (t := decide (i_6 < (a_4.list.length : Int))) h9 h (fun h => ?_) (fun h => ?_)
    · refine .skip ?_
      refine .nsq ?_
      refine .seq ?_
      refine .block ?_
      refine .seq ?_
      refine run_reg ?_
      refine e_end ?_
      refine g_v (encO (.at pinR []) (a_4 : NL Int)) (ev_mov h0 ok_encO) ?_
      refine g_v1 (t := 5) (u := (.int .i64 i_6)) (.int .i64 i_6) h5 rfl rfl ?_
      refine g_v1 (t := 1) (u := (.int .i64 k_5)) (.int .i64 k_5) h1 rfl rfl ?_
      obtain ⟨e_8, E_e_8, h⟩ := bind_some h
      refine g_v (.ref (.at pinR []) i_6.toNat [] (.int .i64 e_8)) (ev_idxO (o := a_4) rfl rfl E_e_8 rfl) ?_
      refine g_store (.int .i64 k_5) (rd_of rfl rfl) (rd_of rfl rfl) (by refine ⟨by decide, by decide, rfl, rfl, rfl, ?_⟩; first | rfl | simp [V.toks, V.tokss, Enc.toks_enc]) ?_
      refine g_end ?_
      refine e_end ?_
      refine renew [(0, (encO (.at pinR []) ((NL.set a_4 i_6.toNat k_5) : NL Int))), (1, (.int .i64 k_5)), (4, (.int .i64 0)), (5, (.int .i64 i_6))] ⟨(keep_mut h0 (mut_ownN (α := Int) (u := k_5) (i := i_6.toNat) (o := a_4))), (keep_mut h1 rfl), (keep_mut h4 rfl), (keep_mut h5 rfl)⟩ ?_
      rintro s ⟨h0, h1, h4, h5⟩
      refine .nsq ?_
      refine run_reg ?_
      refine e_end ?_
      refine g_v1 (t := 1) (u := (.int .i64 k_5)) (.int .i64 k_5) h1 rfl rfl ?_
      refine g_v1 (t := 16) (u := (.int .i64 k_5)) (.int .i64 (w64 (k_5 + 1))) rfl rfl rfl ?_
      refine g_v1 (t := 17) (u := (.int .i64 (w64 (k_5 + 1)))) (.int .i64 (w64 (k_5 + 1))) rfl rfl rfl ?_
      refine g_end ?_
      refine e_end ?_
      refine renew [(0, (encO (.at pinR []) ((NL.set a_4 i_6.toNat k_5) : NL Int))), (1, (.int .i64 (w64 (k_5 + 1)))), (4, (.int .i64 0)), (5, (.int .i64 i_6))] ⟨h0, rfl, h4, h5⟩ ?_
      rintro s ⟨h0, h1, h4, h5⟩
      refine .nbk ?_
      refine .nsq ?_
      refine run_reg ?_
      refine e_end ?_
      refine g_v1 (t := 5) (u := (.int .i64 i_6)) (.int .i64 i_6) h5 rfl rfl ?_
      refine g_v1 (t := 10) (u := (.int .i64 i_6)) (.int .i64 (w64 (i_6 + 1))) rfl rfl rfl ?_
      refine g_v1 (t := 11) (u := (.int .i64 (w64 (i_6 + 1)))) (.int .i64 (w64 (i_6 + 1))) rfl rfl rfl ?_
      refine g_end ?_
      refine e_end ?_
      refine renew [(0, (encO (.at pinR []) ((NL.set a_4 i_6.toNat k_5) : NL Int))), (1, (.int .i64 (w64 (k_5 + 1)))), (4, (.int .i64 0)), (5, (.int .i64 (w64 (i_6 + 1))))] ⟨h0, h1, h4, rfl⟩ ?_
      rintro s ⟨h0, h1, h4, h5⟩
      refine .nlp ?_
      exact ih (NL.set a_4 i_6.toNat k_5) (w64 (k_5 + 1)) (w64 (i_6 + 1)) _ ⟨h0, h1, h4, h5⟩ h
    · refine .exit ?_
      refine .esq ?_
      refine .elp ?_
      refine .ebk ?_
      refine .nsq ?_
      refine .seq ?_
      refine run_reg ?_
      refine e_end ?_
      refine g_v1 (t := 1) (u := (.int .i64 k_5)) (.int .i64 k_5) h1 rfl rfl ?_
      refine g_v1 (t := 18) (u := (.int .i64 k_5)) (.int .i64 k_5) rfl rfl rfl ?_
      refine g_end ?_
      refine e_end ?_
      refine renew [(0, (encO (.at pinR []) (a_4 : NL Int))), (4, (.int .i64 k_5))] ⟨h0, rfl⟩ ?_
      rintro s ⟨h0, h4⟩
      refine .nsq ?_
      refine .ret ?_
      have hr := Option.some.inj h
      subst hr
      exact rmA (res_tmp h4) h0
def w_markIntS (F : Nat) (a_1 : (On Int)) (k_2 : Int) : Option (Int × NL Int) :=
  w_markIntS_l1 F F a_1.v k_2 0
theorem t22 (H : H22 D σ F) (a_1 : (On Int)) (k_2 : Int) (s : Nat → V) (hs : Facts [(0, (encO (.at pinR []) (a_1.v : NL Int))), (1, (.int .i64 k_2))] s) (h : w_markIntS F a_1 k_2 = some r) : Run D σ (R22 r) (.run A22 []) s := by
  unfold w_markIntS at h
  obtain ⟨h0, h1⟩ := hs
  refine .seq ?_
  refine run_reg ?_
  refine e_end ?_
  refine g_v0 (.int .i64 0) rfl rfl ?_
  refine g_end ?_
  refine e_end ?_
  refine renew [(0, (encO (.at pinR []) (a_1.v : NL Int))), (1, (.int .i64 k_2)), (4, (.int .i64 0))] ⟨h0, h1, rfl⟩ ?_
  rintro s ⟨h0, h1, h4⟩
  refine .nsq ?_
  refine .seq ?_
  refine .seq ?_
  refine run_reg ?_
  refine e_end ?_
  refine g_v0 (.int .i64 0) rfl rfl ?_
  refine g_end ?_
  refine e_end ?_
  refine renew [(0, (encO (.at pinR []) (a_1.v : NL Int))), (1, (.int .i64 k_2)), (4, (.int .i64 0)), (5, (.int .i64 0))] ⟨h0, h1, h4, rfl⟩ ?_
  rintro s ⟨h0, h1, h4, h5⟩
  refine .nsq ?_
  refine .block ?_
  refine .loop ?_
  exact t_f22_l1 H F a_1.v k_2 0 _ ⟨h0, h1, h4, h5⟩ h
end
def e22 (F : Nat) : Ent := ⟨22, da (fun (x : ((On Int) × Int × Unit)) => w_markIntS F x.1 x.2.1) (fun (r : (Int × NL Int)) => (.tup [Enc.enc (r.1 : Int), encO (.at pinR []) (r.2 : NL Int)])), pinR, false, selF []⟩
theorem p22 {F : Nat} {x0 : (On Int)} {x1 : Int} {r : (Int × NL Int)} (h : w_markIntS F x0 x1 = some r) : (e22 F).den [Arg.arg x0, Enc.enc x1] = some (.tup [Enc.enc (r.1 : Int), encO (.at pinR []) (r.2 : NL Int)]) := da_put (f := fun (x : ((On Int) × Int × Unit)) => w_markIntS F x.1 x.2.1) (t := fun (r : (Int × NL Int)) => (.tup [Enc.enc (r.1 : Int), encO (.at pinR []) (r.2 : NL Int)])) (x0, x1, ()) h
theorem o22 {D : Den} {σ : Sig} {F : Nat} (hF : Fits2 Try.prog D σ) (H : H22 D σ F) : (e22 F).Ok Try.prog := by
  refine ok_of (f := 22) (show unk 22 = 22 from rfl) (fun args r h => ?_) ⟨Try.f22, Try.func22, rfl, rfl⟩
  obtain ⟨⟨x0, x1, _⟩, y, rfl, hy, rfl⟩ := da_open h
  exact contractM_run hF (by kernel_rfl) Try.func22 rfl c22 (all_ok2 ok_encP rfl) (show 2 ≤ Try.f22.ntmps by decide) (by decide) (t22 H x0 x1 _ ⟨rfl, rfl⟩ hy)
/- loop.example/g01109/laws.heldIntS -/
def A23_2 : AC := (AC.cond (O.t 9) AC.skip (AC.exit 0))
def A23_4 : AC := (AC.cond (O.t 17) (AC.seq (AC.reg [] [(I.mk (some 4) none false (X.v (A.mov (O.k (V.int IntKind.i64 (Int.negSucc 0))))))] []) AC.ret) AC.skip)
def A23_5 : AC := (AC.reg [] [(I.mk (some 18) none false (X.v (A.mov (O.t 1)))), (I.mk (some 19) none false (X.v (A.bin BinOp.add (O.t 18) (O.k (V.int IntKind.i64 (Int.ofNat 1)))))), (I.mk (some 1) none false (X.v (A.mov (O.t 19))))] [])
def A23_6 : AC := (AC.reg [] [(I.mk (some 10) none false (X.v (A.mov (O.t 5)))), (I.mk (some 11) none false (X.v (A.bin BinOp.add (O.t 10) (O.k (V.int IntKind.i64 (Int.ofNat 1)))))), (I.mk (some 5) none false (X.v (A.mov (O.t 11))))] [])
def A23_3 : AC := (AC.seq (AC.block 1 (AC.seq (AC.seq (AC.reg [] [(I.mk (some 12) none false (X.v (A.mov (O.t 0)))), (I.mk (some 13) none false (X.v (A.mov (O.t 5)))), (I.mk (some 14) none false (X.v (A.idx (O.t 12) (O.t 13) 1))), (I.mk (some 15) none false (X.v (A.load Sh.s (O.t 14)))), (I.mk (some 16) none false (X.v (A.mov (O.t 1)))), (I.mk (some 17) none false (X.v (A.bin BinOp.neq (O.t 15) (O.t 16))))] []) A23_4) A23_5)) A23_6)
def A23_1 : AC := (AC.seq (AC.seq (AC.reg [] [(I.mk (some 6) none false (X.v (A.mov (O.t 5)))), (I.mk (some 7) none false (X.v (A.mov (O.t 0)))), (I.mk (some 8) none false (X.v (A.len (O.t 7)))), (I.mk (some 9) none false (X.v (A.bin BinOp.lss (O.t 6) (O.t 8))))] []) A23_2) A23_3)
def A23_7 : AC := (AC.seq (AC.reg [] [(I.mk (some 20) none false (X.v (A.mov (O.t 1)))), (I.mk (some 4) none false (X.v (A.mov (O.t 20))))] []) AC.ret)
def A23_9 : AC := (AC.block 0 (AC.loop A23_1))
def A23_8 : AC := (AC.seq (AC.seq (AC.reg [] [(I.mk (some 5) none false (X.v (A.mov (O.k (V.int IntKind.i64 (Int.ofNat 0))))))] []) A23_9) A23_7)
def A23 : AC := (AC.seq (AC.reg [] [(I.mk (some 4) none false (X.v (A.mov (O.k (V.int IntKind.i64 (Int.ofNat 0))))))] []) A23_8)
def an23 : List An := []
theorem c23 : cC Try.prog Try.f23.ntmps an23 (Try.f23.body.getD .skip) = some A23 := by kernel_rfl
structure H23 (D : Den) (σ : Sig) (F : Nat) : Prop where
  mk ::
abbrev R23 (r : Int) : (Nat → V) → Prop := RR Try.prog [.tmp 4] 0 false (Enc.enc (r : Int))
section
variable {D : Den} {σ : Sig} {F : Nat} {r : Int}
def w_heldIntS_l1 (F : Nat) (a_1 : (List Int))  : Nat → Int → Int → Option Int
  | 0, _, _ => none
  | k + 1, k_4, i_5 =>
    bif decide (i_5 < (a_1.length : Int)) then
      (idx a_1 i_5).bind fun e_7 =>
      bif (e_7 != k_4) then
        some (-1)
      else
        (w_heldIntS_l1 F a_1 k) (w64 (k_4 + 1)) (w64 (i_5 + 1))
    else
      some k_4
theorem t_f23_l1 (H : H23 D σ F) (a_1 : (List Int))  : ∀ (k : Nat) (k_4 : Int) (i_5 : Int) (s : Nat → V), Facts [(0, (Enc.enc (a_1 : List Int))), (1, (.int .i64 k_4)), (4, (.int .i64 0)), (5, (.int .i64 i_5))] s → w_heldIntS_l1 F a_1 k k_4 i_5 = some r → Run D σ (R23 r) (.run A23_1 [.lp A23_1, .bk 0, .sq A23_7]) s := by
  intro k
  induction k with
  | zero => intro k_4 i_5 s _ h; exact nomatch (h : (none : Option _) = some r)
  | succ k ih =>
    intro k_4 i_5 s hs h
    rw [w_heldIntS_l1] at h
    obtain ⟨h0, h1, h4, h5⟩ := hs
    refine .seq ?_
    refine .seq ?_
    refine run_reg ?_
    refine e_end ?_
    refine g_v1 (t := 5) (u := (.int .i64 i_5)) (.int .i64 i_5) h5 rfl rfl ?_
    refine g_v1 (t := 0) (u := (Enc.enc (a_1 : List Int))) (Enc.enc (a_1 : List Int)) h0 rfl rfl ?_
    refine g_v (.int .i64 (a_1.length : Int)) (ev_len (xs := a_1) rfl) ?_
    refine g_v2 (t1 := 6) (t2 := 8) (u1 := (.int .i64 i_5)) (u2 := (.int .i64 (a_1.length : Int))) (.bool (decide (i_5 < (a_1.length : Int)))) rfl rfl rfl rfl ?_
    refine g_end ?_
    refine e_end ?_
    refine renew [(0, (Enc.enc (a_1 : List Int))), (1, (.int .i64 k_4)), (4, (.int .i64 0)), (5, (.int .i64 i_5)), (9, (.bool (decide (i_5 < (a_1.length : Int)))))] ⟨h0, h1, h4, h5, rfl⟩ ?_
    rintro s ⟨h0, h1, h4, h5, h9⟩
    refine .nsq ?_
    refine run_cond (t := decide (i_5 < (a_1.length : Int))) h9 h (fun h => ?_) (fun h => ?_)
    · refine .skip ?_
      refine .nsq ?_
      refine .seq ?_
      refine .block ?_
      refine .seq ?_
      refine .seq ?_
      refine run_reg ?_
      refine e_end ?_
      refine g_v1 (t := 0) (u := (Enc.enc (a_1 : List Int))) (Enc.enc (a_1 : List Int)) h0 rfl rfl ?_
      refine g_v1 (t := 5) (u := (.int .i64 i_5)) (.int .i64 i_5) h5 rfl rfl ?_
      obtain ⟨e_7, E_e_7, h⟩ := bind_some h
      refine g_v (.ref .sh 0 [] (.int .i64 e_7)) (ev_idx (t := .sh) (lo := 0) (xs := a_1) rfl rfl E_e_7 rfl rfl) ?_
      refine g_v1 (t := 14) (u := (.ref .sh 0 [] (.int .i64 e_7))) (.int .i64 e_7) rfl rfl rfl ?_
      refine g_v1 (t := 1) (u := (.int .i64 k_4)) (.int .i64 k_4) h1 rfl rfl ?_
      refine g_v2 (t1 := 15) (t2 := 16) (u1 := (.int .i64 e_7)) (u2 := (.int .i64 k_4)) (.bool (e_7 != k_4)) rfl rfl rfl rfl ?_
      refine g_end ?_
      refine e_end ?_
      refine renew [(0, (Enc.enc (a_1 : List Int))), (1, (.int .i64 k_4)), (4, (.int .i64 0)), (5, (.int .i64 i_5)), (17, (.bool (e_7 != k_4)))] ⟨h0, h1, h4, h5, rfl⟩ ?_
      rintro s ⟨h0, h1, h4, h5, h17⟩
      refine .nsq ?_
      refine run_cond (t := (e_7 != k_4)) h17 h (fun h => ?_) (fun h => ?_)
      · refine .seq ?_
        refine run_reg ?_
        refine e_end ?_
        refine g_v0 (.int .i64 (-1)) rfl rfl ?_
        refine g_end ?_
        refine e_end ?_
        refine renew [(0, (Enc.enc (a_1 : List Int))), (1, (.int .i64 k_4)), (4, (.int .i64 (-1))), (5, (.int .i64 i_5))] ⟨h0, h1, rfl, h5⟩ ?_
        rintro s ⟨h0, h1, h4, h5⟩
        refine .nsq ?_
        refine .ret ?_
        have hr := Option.some.inj h
        subst hr
        exact rrA (res_tmp h4) rfl
      · refine .skip ?_
        refine .nsq ?_
        refine run_reg ?_
        refine e_end ?_
        refine g_v1 (t := 1) (u := (.int .i64 k_4)) (.int .i64 k_4) h1 rfl rfl ?_
        refine g_v1 (t := 18) (u := (.int .i64 k_4)) (.int .i64 (w64 (k_4 + 1))) rfl rfl rfl ?_
        refine g_v1 (t := 19) (u := (.int .i64 (w64 (k_4 + 1)))) (.int .i64 (w64 (k_4 + 1))) rfl rfl rfl ?_
        refine g_end ?_
        refine e_end ?_
        refine renew [(0, (Enc.enc (a_1 : List Int))), (1, (.int .i64 (w64 (k_4 + 1)))), (4, (.int .i64 0)), (5, (.int .i64 i_5))] ⟨h0, rfl, h4, h5⟩ ?_
        rintro s ⟨h0, h1, h4, h5⟩
        refine .nbk ?_
        refine .nsq ?_
        refine run_reg ?_
        refine e_end ?_
        refine g_v1 (t := 5) (u := (.int .i64 i_5)) (.int .i64 i_5) h5 rfl rfl ?_
        refine g_v1 (t := 10) (u := (.int .i64 i_5)) (.int .i64 (w64 (i_5 + 1))) rfl rfl rfl ?_
        refine g_v1 (t := 11) (u := (.int .i64 (w64 (i_5 + 1)))) (.int .i64 (w64 (i_5 + 1))) rfl rfl rfl ?_
        refine g_end ?_
        refine e_end ?_
        refine renew [(0, (Enc.enc (a_1 : List Int))), (1, (.int .i64 (w64 (k_4 + 1)))), (4, (.int .i64 0)), (5, (.int .i64 (w64 (i_5 + 1))))] ⟨h0, h1, h4, rfl⟩ ?_
        rintro s ⟨h0, h1, h4, h5⟩
        refine .nlp ?_
        exact ih (w64 (k_4 + 1)) (w64 (i_5 + 1)) _ ⟨h0, h1, h4, h5⟩ h
    · refine .exit ?_
      refine .esq ?_
      refine .elp ?_
      refine .ebk ?_
      refine .nsq ?_
      refine .seq ?_
      refine run_reg ?_
      refine e_end ?_
      refine g_v1 (t := 1) (u := (.int .i64 k_4)) (.int .i64 k_4) h1 rfl rfl ?_
      refine g_v1 (t := 20) (u := (.int .i64 k_4)) (.int .i64 k_4) rfl rfl rfl ?_
      refine g_end ?_
      refine e_end ?_
      refine renew [(4, (.int .i64 k_4))] rfl ?_
      rintro s h4
      refine .nsq ?_
      refine .ret ?_
      have hr := Option.some.inj h
      subst hr
      exact rrA (res_tmp h4) rfl
def w_heldIntS (F : Nat) (a_1 : (List Int)) (k_2 : Int) : Option Int :=
  w_heldIntS_l1 F a_1 F k_2 0
theorem t23 (H : H23 D σ F) (a_1 : (List Int)) (k_2 : Int) (s : Nat → V) (hs : Facts [(0, (Enc.enc (a_1 : List Int))), (1, (.int .i64 k_2))] s) (h : w_heldIntS F a_1 k_2 = some r) : Run D σ (R23 r) (.run A23 []) s := by
  unfold w_heldIntS at h
  obtain ⟨h0, h1⟩ := hs
  refine .seq ?_
  refine run_reg ?_
  refine e_end ?_
  refine g_v0 (.int .i64 0) rfl rfl ?_
  refine g_end ?_
  refine e_end ?_
  refine renew [(0, (Enc.enc (a_1 : List Int))), (1, (.int .i64 k_2)), (4, (.int .i64 0))] ⟨h0, h1, rfl⟩ ?_
  rintro s ⟨h0, h1, h4⟩
  refine .nsq ?_
  refine .seq ?_
  refine .seq ?_
  refine run_reg ?_
  refine e_end ?_
  refine g_v0 (.int .i64 0) rfl rfl ?_
  refine g_end ?_
  refine e_end ?_
  refine renew [(0, (Enc.enc (a_1 : List Int))), (1, (.int .i64 k_2)), (4, (.int .i64 0)), (5, (.int .i64 0))] ⟨h0, h1, h4, rfl⟩ ?_
  rintro s ⟨h0, h1, h4, h5⟩
  refine .nsq ?_
  refine .block ?_
  refine .loop ?_
  exact t_f23_l1 H a_1 F k_2 0 _ ⟨h0, h1, h4, h5⟩ h
end
def e23 (F : Nat) : Ent := ⟨23, da (fun (x : ((List Int) × Int × Unit)) => w_heldIntS F x.1 x.2.1) (fun (r : Int) => (Enc.enc (r : Int))), 0, false, selF []⟩
theorem p23 {F : Nat} {x0 : (List Int)} {x1 : Int} {r : Int} (h : w_heldIntS F x0 x1 = some r) : (e23 F).den [Enc.enc x0, Enc.enc x1] = some (Enc.enc (r : Int)) := da_put (f := fun (x : ((List Int) × Int × Unit)) => w_heldIntS F x.1 x.2.1) (t := fun (r : Int) => (Enc.enc (r : Int))) (x0, x1, ()) h
theorem o23 {D : Den} {σ : Sig} {F : Nat} (hF : Fits2 Try.prog D σ) (H : H23 D σ F) : (e23 F).Ok Try.prog := by
  refine ok_of (f := 23) (show unk 23 = 23 from rfl) (fun args r h => ?_) ⟨Try.f23, Try.func23, rfl, rfl⟩
  obtain ⟨⟨x0, x1, _⟩, y, rfl, hy, rfl⟩ := da_open h
  exact contract_run hF (by kernel_rfl) Try.func23 rfl c23 (show 2 ≤ Try.f23.ntmps by decide) (t23 H x0 x1 _ ⟨rfl, rfl⟩ hy)
/- loop.example/g01109/laws.FnExactLongestPath -/
def A3_1 : AC := (AC.cond (O.t 87) (AC.seq (AC.reg [] [(I.mk (some 2) none false (X.v (A.mov (O.k (V.bool false)))))] []) AC.ret) AC.skip)
def A3_5 : AC := (AC.cond (O.t 92) (AC.seq (AC.reg [] [(I.mk (some 2) none false (X.v (A.mov (O.k (V.bool false)))))] []) AC.ret) AC.skip)
def A3_7 : AC := (AC.cond (O.t 95) (AC.seq (AC.reg [] [(I.mk (some 2) none false (X.v (A.mov (O.k (V.bool false)))))] []) AC.ret) AC.skip)
def A3_8 : AC := (AC.seq (AC.reg [] [(I.mk (some 2) none false (X.v (A.mov (O.k (V.bool true)))))] []) AC.ret)
def A3_6 : AC := (AC.seq (AC.seq (AC.reg [] [(I.mk (some 93) none false (X.v (A.mov (O.t 11)))), (I.mk (some 94) none false (X.v (A.mov (O.t 10)))), (I.mk (some 95) none false (X.v (A.bin BinOp.neq (O.t 93) (O.t 94))))] []) A3_7) A3_8)
def A3_4 : AC := (AC.seq (AC.seq (AC.reg [] [(I.mk (some 91) none false (X.v (A.mov (O.t 11)))), (I.mk (some 92) none false (X.v (A.bin BinOp.lss (O.t 91) (O.k (V.int IntKind.i64 (Int.ofNat 0))))))] []) A3_5) A3_6)
def A3_3 : AC := (AC.seq (AC.reg [] [(I.mk (some 88) none false (X.v (A.mov (O.t 7)))), (I.mk (some 89) none false (X.v (A.mov (O.t 11)))), (I.mk (some 90) none false (X.call (O.k (V.fn 23 [] [])) [(O.t 88), (O.t 89)])), (I.mk (some 11) none false (X.v (A.mov (O.t 90))))] []) A3_4)
def A3_2 : AC := (AC.seq (AC.reg [] [(I.mk (some 11) none false (X.v (A.mov (O.k (V.int IntKind.i64 (Int.ofNat 1))))))] []) A3_3)
def A3_9 : AC := (AC.cond (O.t 61) (AC.seq (AC.reg [] [(I.mk (some 2) none false (X.v (A.mov (O.k (V.bool false)))))] []) AC.ret) AC.skip)
def A3_15 : AC := (AC.cond (O.t 69) (AC.seq (AC.reg [] [(I.mk (some 2) none false (X.v (A.mov (O.k (V.bool false)))))] []) AC.ret) AC.skip)
def A3_17 : AC := (AC.cond (O.t 72) (AC.seq (AC.reg [] [(I.mk (some 2) none false (X.v (A.mov (O.k (V.bool false)))))] []) AC.ret) AC.skip)
def A3_19 : AC := (AC.seq (AC.seq (AC.reg [] [(I.mk (some 79) none false (X.v (A.mov (O.t 12)))), (I.mk (some 80) none false (X.v (A.mov (O.t 4)))), (I.mk (some 81) none false (X.call (O.k (V.fn 19 [] [])) [(O.t 79), (O.t 80)])), (I.mk (some 82) none false (X.v (A.un UnOp.not (O.t 81)))), (I.mk (some 83) none false (X.v (A.mov (O.t 82)))), (I.mk (some 84) (some (83, false)) false (X.v (A.mov (O.t 13)))), (I.mk (some 85) (some (83, false)) false (X.v (A.mov (O.t 5)))), (I.mk (some 86) (some (83, false)) false (X.v (A.beq true (O.t 84) (O.t 85)))), (I.mk (some 87) none false (X.v (A.pick (O.t 83) (O.k (V.bool true)) (O.t 86))))] []) A3_1) A3_2)
def A3_18 : AC := (AC.seq (AC.reg [.clr [76]] [(I.mk (some 74) none false (X.v (A.load (Sh.ag [Sh.s, Sh.p]) (O.t 1)))), (I.mk (some 75) none false (X.call (O.k (V.fn 17 [] [])) [(O.t 74)])), (I.mk (some 76) none false (X.callO (O.k (V.fn 18 [] [])) [(O.t 75)])), (I.mk (some 73) none false (X.v (A.mov (O.t 76)))), (I.mk (some 77) none false (X.v (A.ext (O.t 73) 0))), (I.mk (some 78) none false (X.v (A.extS (O.t 73) 1))), (I.mk (some 12) none false (X.v (A.mov (O.t 77)))), (I.mk (some 13) none false (X.v (A.mov (O.t 78))))] [.home 76 12]) A3_19)
def A3_16 : AC := (AC.seq (AC.seq (AC.reg [] [(I.mk (some 70) none false (X.v (A.mov (O.t 11)))), (I.mk (some 71) none false (X.v (A.mov (O.t 10)))), (I.mk (some 72) none false (X.v (A.bin BinOp.neq (O.t 70) (O.t 71))))] []) A3_17) A3_18)
def A3_14 : AC := (AC.seq (AC.seq (AC.reg [] [(I.mk (some 68) none false (X.v (A.mov (O.t 11)))), (I.mk (some 69) none false (X.v (A.bin BinOp.lss (O.t 68) (O.k (V.int IntKind.i64 (Int.ofNat 0))))))] []) A3_15) A3_16)
def A3_13 : AC := (AC.seq (AC.reg [] [(I.mk (some 65) none false (X.v (A.mov (O.t 7)))), (I.mk (some 66) none false (X.v (A.mov (O.t 11)))), (I.mk (some 67) none false (X.call (O.k (V.fn 23 [] [])) [(O.t 65), (O.t 66)])), (I.mk (some 11) none false (X.v (A.mov (O.t 67))))] []) A3_14)
def A3_12 : AC := (AC.seq (AC.reg [] [(I.mk (some 11) none false (X.v (A.mov (O.k (V.int IntKind.i64 (Int.ofNat 1))))))] []) A3_13)
def A3_11 : AC := (AC.seq (AC.reg [] [(I.mk (some 62) none false (X.v (A.mov (O.t 7)))), (I.mk (some 63) none false (X.v (A.mov (O.t 10)))), (I.mk (some 64) none false (X.mark (O.k (V.fn 22 [] [])) [(O.t 62), (O.t 63)])), (I.mk (some 10) none false (X.v (A.mov (O.t 64))))] []) A3_12)
def A3_10 : AC := (AC.seq (AC.reg [] [(I.mk (some 10) none false (X.v (A.mov (O.k (V.int IntKind.i64 (Int.ofNat 1))))))] []) A3_11)
def A3_20 : AC := (AC.cond (O.t 40) (AC.seq (AC.reg [] [(I.mk (some 2) none false (X.v (A.mov (O.k (V.bool false)))))] []) AC.ret) AC.skip)
def A3_22 : AC := (AC.cond (O.t 45) (AC.seq (AC.reg [] [(I.mk (some 2) none false (X.v (A.mov (O.k (V.bool false)))))] []) AC.ret) AC.skip)
def A3_25 : AC := (AC.seq (AC.seq (AC.reg [] [(I.mk (some 49) none false (X.v (A.mov (O.t 9)))), (I.mk (some 50) none false (X.v (A.bin BinOp.lss (O.t 49) (O.k (V.int IntKind.i64 (Int.ofNat 0)))))), (I.mk (some 51) none false (X.v (A.mov (O.t 50)))), (I.mk (some 52) (some (51, false)) false (X.v (A.mov (O.t 7)))), (I.mk (some 53) (some (51, false)) false (X.v (A.mov (O.t 4)))), (I.mk (some 54) (some (51, false)) false (X.call (O.k (V.fn 19 [] [])) [(O.t 52), (O.t 53)])), (I.mk (some 55) (some (51, false)) false (X.v (A.un UnOp.not (O.t 54)))), (I.mk (some 56) none false (X.v (A.pick (O.t 51) (O.k (V.bool true)) (O.t 55)))), (I.mk (some 57) none false (X.v (A.mov (O.t 56)))), (I.mk (some 58) (some (57, false)) false (X.v (A.mov (O.t 8)))), (I.mk (some 59) (some (57, false)) false (X.v (A.mov (O.t 5)))), (I.mk (some 60) (some (57, false)) false (X.v (A.beq true (O.t 58) (O.t 59)))), (I.mk (some 61) none false (X.v (A.pick (O.t 57) (O.k (V.bool true)) (O.t 60))))] []) A3_9) A3_10)
def A3_24 : AC := (AC.seq (AC.reg [] [(I.mk (some 46) none false (X.v (A.load (Sh.ag [Sh.s, Sh.p]) (O.t 6)))), (I.mk (some 47) none false (X.v (A.mov (O.t 9)))), (I.mk (some 48) none false (X.mark (O.k (V.fn 21 [] [])) [(O.t 46), (O.t 47)])), (I.mk (some 9) none false (X.v (A.mov (O.t 48))))] []) A3_25)
def A3_23 : AC := (AC.seq (AC.reg [] [(I.mk (some 9) none false (X.v (A.mov (O.k (V.int IntKind.i64 (Int.ofNat 1))))))] []) A3_24)
def A3_21 : AC := (AC.seq (AC.seq (AC.reg [] [(I.mk (some 41) none false (X.v (A.load (Sh.ag [Sh.s, Sh.p]) (O.t 6)))), (I.mk (some 42) none false (X.v (A.load (Sh.ag [Sh.s, Sh.p]) (O.t 1)))), (I.mk (some 43) none false (X.call (O.k (V.fn 17 [] [])) [(O.t 42)])), (I.mk (some 44) none false (X.call (O.k (V.fn 20 [] [])) [(O.t 41), (O.t 43)])), (I.mk (some 45) none false (X.v (A.un UnOp.not (O.t 44))))] []) A3_22) A3_23)
def A3_29 : AC := (AC.cond (O.t 18) (AC.seq (AC.reg [] [(I.mk (some 2) none false (X.v (A.mov (O.k (V.bool true)))))] []) AC.ret) AC.skip)
def A3_33 : AC := (AC.seq (AC.seq (AC.reg [] [(I.mk (some 32) none false (X.v (A.mov (O.t 7)))), (I.mk (some 33) none false (X.v (A.mov (O.t 4)))), (I.mk (some 34) none false (X.call (O.k (V.fn 19 [] [])) [(O.t 32), (O.t 33)])), (I.mk (some 35) none false (X.v (A.un UnOp.not (O.t 34)))), (I.mk (some 36) none false (X.v (A.mov (O.t 35)))), (I.mk (some 37) (some (36, false)) false (X.v (A.mov (O.t 8)))), (I.mk (some 38) (some (36, false)) false (X.v (A.mov (O.t 5)))), (I.mk (some 39) (some (36, false)) false (X.v (A.beq true (O.t 37) (O.t 38)))), (I.mk (some 40) none false (X.v (A.pick (O.t 36) (O.k (V.bool true)) (O.t 39))))] []) A3_20) A3_21)
def A3_32 : AC := (AC.seq (AC.reg [.clr [29]] [(I.mk (some 28) none false (X.v (A.load (Sh.ag [Sh.s, Sh.p]) (O.t 6)))), (I.mk (some 29) none false (X.callO (O.k (V.fn 18 [] [])) [(O.t 28)])), (I.mk (some 27) none false (X.v (A.mov (O.t 29)))), (I.mk (some 30) none false (X.v (A.ext (O.t 27) 0))), (I.mk (some 31) none false (X.v (A.extS (O.t 27) 1))), (I.mk (some 7) none false (X.v (A.mov (O.t 30)))), (I.mk (some 8) none false (X.v (A.mov (O.t 31))))] [.home 29 7]) A3_33)
def A3_31 : AC := (AC.seq (AC.reg [.clr [26, 6]] [(I.mk (some 25) none false (X.v (A.load (Sh.ag [Sh.s, Sh.p]) (O.t 1)))), (I.mk (some 26) none false (X.callO (O.k (V.fn 17 [] [])) [(O.t 25)])), (I.mk (some 6) none false (X.alloc (V.agg [(V.int IntKind.i64 (Int.ofNat 0)), (V.sl Tok.nl (Sh.ag [Sh.s, Sh.s]) 0 [])]))), (I.mk none none false (X.store (Sh.ag [Sh.s, Sh.p]) (O.t 6) (O.t 26)))] []) A3_32)
def A3_30 : AC := (AC.seq (AC.reg [] [(I.mk (some 20) none false (X.v (A.load (Sh.ag [Sh.s, Sh.p]) (O.t 1)))), (I.mk (some 21) none false (X.call (O.k (V.fn 17 [] [])) [(O.t 20)])), (I.mk (some 22) none false (X.call (O.k (V.fn 16 [] [])) [(O.t 21)])), (I.mk (some 19) none false (X.v (A.mov (O.t 22)))), (I.mk (some 23) none false (X.v (A.ext (O.t 19) 0))), (I.mk (some 24) none false (X.v (A.extS (O.t 19) 1))), (I.mk (some 4) none false (X.v (A.mov (O.t 23)))), (I.mk (some 5) none false (X.v (A.mov (O.t 24))))] []) A3_31)
def A3_28 : AC := (AC.seq (AC.seq (AC.reg [] [(I.mk (some 17) none false (X.v (A.mov (O.t 3)))), (I.mk (some 18) none false (X.v (A.bin BinOp.lss (O.t 17) (O.k (V.int IntKind.i64 (Int.ofNat 0))))))] []) A3_29) A3_30)
def A3_27 : AC := (AC.seq (AC.reg [] [(I.mk (some 14) none false (X.v (A.load (Sh.ag [Sh.s, Sh.p]) (O.t 1)))), (I.mk (some 15) none false (X.v (A.mov (O.t 3)))), (I.mk (some 16) none false (X.call (O.k (V.fn 15 [] [])) [(O.t 14), (O.t 15)])), (I.mk (some 3) none false (X.v (A.mov (O.t 16))))] []) A3_28)
def A3_26 : AC := (AC.seq (AC.reg [] [(I.mk (some 3) none false (X.v (A.mov (O.k (V.int IntKind.i64 (Int.ofNat 1048576))))))] []) A3_27)
def A3 : AC := (AC.seq (AC.reg [.clr [1]] [(I.mk (some 1) none false (X.box (O.t 0))), (I.mk (some 2) none false (X.v (A.mov (O.k (V.bool false)))))] []) A3_26)
def an3 : List An := [{ id := 0, pre := [.clr [1]], ep := [], lin := [], sp := [] }, { id := 6, pre := [.clr [26, 6]], ep := [], lin := [], sp := [1001] }, { id := 7, pre := [.clr [29]], ep := [.home 29 7], lin := [], sp := [1001] }, { id := 13, pre := [], ep := [], lin := [], sp := [2] }, { id := 17, pre := [], ep := [], lin := [], sp := [2] }, { id := 24, pre := [.clr [76]], ep := [.home 76 12], lin := [], sp := [1002] }]
theorem c3 : cC Try.prog Try.f3.ntmps an3 (Try.f3.body.getD .skip) = some A3 := by kernel_rfl
structure H3 (D : Den) (σ : Sig) (F : Nat) : Prop where
  c15 : ∀ (x0 : (Int × (List (Int × Int)))) (x1 : Int) r, w_szGraph F x0 x1 = some r → D 15 [Enc.enc x0, Enc.enc x1] = some (Enc.enc (r : Int))
  g15 : σ 15 = some (0, false)
  c17 : ∀ (x0 : (Int × (List (Int × Int)))) r, w_toGraph F x0 = some r → D 17 [Enc.enc x0] = some (Enc.enc (r : (Int × (List (Int × Int)))))
  g17 : σ 17 = some (0, true)
  c16 : ∀ (x0 : (Int × (List (Int × Int)))) r, s_LongestPath F x0 = some r → D 16 [Enc.enc x0] = some (.tup [Enc.enc (r.1 : (List Int)), Enc.enc (r.2 : Bool)])
  g16 : σ 16 = some (0, true)
  c17o : ∀ (x0 : (Int × (List (Int × Int)))) r, w_toGraph_o F x0 = some r → D 1000000017 [Enc.enc x0] = some (.agg [(Enc.enc (r.1 : Int)), (encO .sh (r.2 : NL (Int × Int)))])
  g17o : σ 1000000017 = some (1, false)
  c18o : ∀ (x0 : (Int × (List (Int × Int)))) r, i_LongestPath_o F x0 = some r → D 1000000018 [Enc.enc x0] = some (.tup [(encO .sh (r.1 : NL Int)), (Enc.enc (r.2 : Bool))])
  g18o : σ 1000000018 = some (1, false)
  c19 : ∀ (x0 : (List Int)) (x1 : (List Int)) r, w_eqIntS F x0 x1 = some r → D 19 [Enc.enc x0, Enc.enc x1] = some (Enc.enc (r : Bool))
  g19 : σ 19 = some (0, false)
  c20 : ∀ (x0 : (Int × (List (Int × Int)))) (x1 : (Int × (List (Int × Int)))) r, w_eqGraph F x0 x1 = some r → D 20 [Enc.enc x0, Enc.enc x1] = some (Enc.enc (r : Bool))
  g20 : σ 20 = some (0, false)
  c21 : ∀ (x0 : (Og (Int × Int))) (x1 : Int) r, w_markGraph F x0 x1 = some r → D 21 [Arg.arg x0, Enc.enc x1] = some (.tup [Enc.enc (r : Int), .dead])
  g21 : σ 21 = some (pinR, false)
  c22 : ∀ (x0 : (On Int)) (x1 : Int) r, w_markIntS F x0 x1 = some r → D 22 [Arg.arg x0, Enc.enc x1] = some (.tup [Enc.enc (r.1 : Int), encO (.at pinR []) (r.2 : NL Int)])
  g22 : σ 22 = some (pinR, false)
  c23 : ∀ (x0 : (List Int)) (x1 : Int) r, w_heldIntS F x0 x1 = some r → D 23 [Enc.enc x0, Enc.enc x1] = some (Enc.enc (r : Int))
  g23 : σ 23 = some (0, false)
abbrev R3 (r : Bool) : (Nat → V) → Prop := RR Try.prog [.tmp 2] 0 false (Enc.enc (r : Bool))
section
variable {D : Den} {σ : Sig} {F : Nat} {r : Bool}
def w_FnExactLongestPath_j1 (F : Nat) (m_15 : (NL Int)) (r_14 : (Int × NL Int))  (t87_20 : Bool) : Option Bool :=
  bif t87_20 then
    some false
  else
    (w_heldIntS F m_15.list 1).bind fun r_21 =>
    bif decide (r_21 < 0) then
      some false
    else
      bif (r_21 != r_14.1) then
        some false
      else
        some true
theorem t_f3_j1 (H : H3 D σ F) (m_15 : (NL Int)) (r_14 : (Int × NL Int))  (t87_20 : Bool) (s : Nat → V) (hs : Facts [(2, (.bool false)), (7, (encO (.at 7 [0]) (m_15 : NL Int))), (10, (.int .i64 r_14.1)), (87, (.bool t87_20))] s) (h : w_FnExactLongestPath_j1 F m_15 r_14  t87_20 = some r) : Run D σ (R3 r) (.nrm [.sq A3_1, .sq A3_2]) s := by
  unfold w_FnExactLongestPath_j1 at h
  obtain ⟨h2, h7, h10, h87⟩ := hs
  refine .nsq ?_
  refine run_cond (t := t87_20) h87 h (fun h => ?_) (fun h => ?_)
  · refine .seq ?_
    refine run_reg ?_
    refine e_end ?_
    refine g_v0 (.bool false) rfl rfl ?_
    refine g_end ?_
    refine e_end ?_
    refine renew [(2, (.bool false)), (7, (encO (.at 7 [0]) (m_15 : NL Int))), (10, (.int .i64 r_14.1))] ⟨rfl, h7, h10⟩ ?_
    rintro s ⟨h2, h7, h10⟩
    refine .nsq ?_
    refine .ret ?_
    have hr := Option.some.inj h
    subst hr
    exact rrA (res_tmp h2) rfl
  · refine .skip ?_
    refine .nsq ?_
    refine .seq ?_
    refine run_reg ?_
    refine e_end ?_
    refine g_v0 (.int .i64 1) rfl rfl ?_
    refine g_end ?_
    refine e_end ?_
    refine renew [(2, (.bool false)), (7, (encO (.at 7 [0]) (m_15 : NL Int))), (10, (.int .i64 r_14.1)), (11, (.int .i64 1))] ⟨h2, h7, h10, rfl⟩ ?_
    rintro s ⟨h2, h7, h10, h11⟩
    refine .nsq ?_
    refine .seq ?_
    refine run_reg ?_
    refine e_end ?_
    refine g_v (encO (.at 7 [0]) (m_15 : NL Int)) (ev_mov h7 ok_encO) ?_
    refine g_v1 (t := 11) (u := (.int .i64 1)) (.int .i64 1) h11 rfl rfl ?_
    obtain ⟨r_21, E_r_21, h⟩ := bind_some h
    refine g_call (m := 0) (al := false) (r := (Enc.enc (r_21 : Int))) [Enc.enc (m_15.list : (List Int)), Enc.enc (1 : Int)] (ta_cons (v := (encO (.at 7 [0]) (m_15 : NL Int))) rfl ok_encP (erase_encO (o := m_15)) (ta_cons (v := (.int .i64 1)) rfl rfl rfl ta_nil)) (H.c23 _ _ _ E_r_21) H.g23 rfl rfl rfl rfl ?_
    refine g_v1 (t := 90) (u := (.int .i64 r_21)) (.int .i64 r_21) rfl rfl rfl ?_
    refine g_end ?_
    refine e_end ?_
    refine renew [(2, (.bool false)), (10, (.int .i64 r_14.1)), (11, (.int .i64 r_21))] ⟨h2, h10, rfl⟩ ?_
    rintro s ⟨h2, h10, h11⟩
    refine .nsq ?_
    refine .seq ?_
    refine .seq ?_
    refine run_reg ?_
    refine e_end ?_
    refine g_v1 (t := 11) (u := (.int .i64 r_21)) (.int .i64 r_21) h11 rfl rfl ?_
    refine g_v1 (t := 91) (u := (.int .i64 r_21)) (.bool (decide (r_21 < 0))) rfl rfl rfl ?_
    refine g_end ?_
    refine e_end ?_
    refine renew [(2, (.bool false)), (10, (.int .i64 r_14.1)), (11, (.int .i64 r_21)), (92, (.bool (decide (r_21 < 0))))] ⟨h2, h10, h11, rfl⟩ ?_
    rintro s ⟨h2, h10, h11, h92⟩
    refine .nsq ?_
    refine run_cond (t := decide (r_21 < 0)) h92 h (fun h => ?_) (fun h => ?_)
    · refine .seq ?_
      refine run_reg ?_
      refine e_end ?_
      refine g_v0 (.bool false) rfl rfl ?_
      refine g_end ?_
      refine e_end ?_
      refine renew [(2, (.bool false)), (10, (.int .i64 r_14.1)), (11, (.int .i64 r_21))] ⟨rfl, h10, h11⟩ ?_
      rintro s ⟨h2, h10, h11⟩
      refine .nsq ?_
      refine .ret ?_
      have hr := Option.some.inj h
      subst hr
      exact rrA (res_tmp h2) rfl
    · refine .skip ?_
      refine .nsq ?_
      refine .seq ?_
      refine .seq ?_
      refine run_reg ?_
      refine e_end ?_
      refine g_v1 (t := 11) (u := (.int .i64 r_21)) (.int .i64 r_21) h11 rfl rfl ?_
      refine g_v1 (t := 10) (u := (.int .i64 r_14.1)) (.int .i64 r_14.1) h10 rfl rfl ?_
      refine g_v2 (t1 := 93) (t2 := 94) (u1 := (.int .i64 r_21)) (u2 := (.int .i64 r_14.1)) (.bool (r_21 != r_14.1)) rfl rfl rfl rfl ?_
      refine g_end ?_
      refine e_end ?_
      refine renew [(2, (.bool false)), (95, (.bool (r_21 != r_14.1)))] ⟨h2, rfl⟩ ?_
      rintro s ⟨h2, h95⟩
      refine .nsq ?_
      refine run_cond (t := (r_21 != r_14.1)) h95 h (fun h => ?_) (fun h => ?_)
      · refine .seq ?_
        refine run_reg ?_
        refine e_end ?_
        refine g_v0 (.bool false) rfl rfl ?_
        refine g_end ?_
        refine e_end ?_
        refine renew [(2, (.bool false))] rfl ?_
        rintro s h2
        refine .nsq ?_
        refine .ret ?_
        have hr := Option.some.inj h
        subst hr
        exact rrA (res_tmp h2) rfl
      · refine .skip ?_
        refine .nsq ?_
        refine .seq ?_
        refine run_reg ?_
        refine e_end ?_
        refine g_v0 (.bool true) rfl rfl ?_
        refine g_end ?_
        refine e_end ?_
        refine renew [(2, (.bool true))] rfl ?_
        rintro s h2
        refine .nsq ?_
        refine .ret ?_
        have hr := Option.some.inj h
        subst hr
        exact rrA (res_tmp h2) rfl
def w_FnExactLongestPath_j2 (F : Nat) (aG_1 : (Int × (List (Int × Int)))) (r_4 : ((List Int) × Bool)) (r_6 : ((NL Int) × Bool))  (t61_13 : Bool) : Option Bool :=
  bif t61_13 then
    some false
  else
    (w_markIntS F (On.mk r_6.1 : (On Int)) 1).bind fun r_14 =>
    (remark r_6.1 r_14.2).bind fun m_15 =>
    (w_heldIntS F m_15.list 1).bind fun r_16 =>
    bif decide (r_16 < 0) then
      some false
    else
      bif (r_16 != r_14.1) then
        some false
      else
        (w_toGraph F aG_1).bind fun r_17 =>
        (i_LongestPath_o F r_17).bind fun r_18 =>
        (w_eqIntS F r_18.1.list r_4.1).bind fun r_22 =>
        bif (!r_22) then
          w_FnExactLongestPath_j1 F m_15 r_14 true
        else
          w_FnExactLongestPath_j1 F m_15 r_14 (r_18.2 != r_4.2)
theorem t_f3_j2 (H : H3 D σ F) (aG_1 : (Int × (List (Int × Int)))) (r_4 : ((List Int) × Bool)) (r_6 : ((NL Int) × Bool))  (t61_13 : Bool) (s : Nat → V) (hs : Facts [(1, (.ref (.bx 1) 0 [] (.agg [(.int .i64 aG_1.1), (Enc.enc (aG_1.2 : List (Int × Int)))]))), (2, (.bool false)), (4, (Enc.enc (r_4.1 : List Int))), (5, (.bool r_4.2)), (7, (encO (.at 7 [0]) (r_6.1 : NL Int))), (61, (.bool t61_13))] s) (h : w_FnExactLongestPath_j2 F aG_1 r_4 r_6  t61_13 = some r) : Run D σ (R3 r) (.nrm [.sq A3_9, .sq A3_10]) s := by
  unfold w_FnExactLongestPath_j2 at h
  obtain ⟨h1, h2, h4, h5, h7, h61⟩ := hs
  refine .nsq ?_
  refine run_cond (t := t61_13) h61 h (fun h => ?_) (fun h => ?_)
  · refine .seq ?_
    refine run_reg ?_
    refine e_end ?_
    refine g_v0 (.bool false) rfl rfl ?_
    refine g_end ?_
    refine e_end ?_
    refine renew [(1, (.ref (.bx 1) 0 [] (.agg [(.int .i64 aG_1.1), (Enc.enc (aG_1.2 : List (Int × Int)))]))), (2, (.bool false)), (4, (Enc.enc (r_4.1 : List Int))), (5, (.bool r_4.2)), (7, (encO (.at 7 [0]) (r_6.1 : NL Int)))] ⟨h1, rfl, h4, h5, h7⟩ ?_
    rintro s ⟨h1, h2, h4, h5, h7⟩
    refine .nsq ?_
    refine .ret ?_
    have hr := Option.some.inj h
    subst hr
    exact rrA (res_tmp h2) rfl
  · refine .skip ?_
    refine .nsq ?_
    refine .seq ?_
    refine run_reg ?_
    refine e_end ?_
    refine g_v0 (.int .i64 1) rfl rfl ?_
    refine g_end ?_
    refine e_end ?_
    refine renew [(1, (.ref (.bx 1) 0 [] (.agg [(.int .i64 aG_1.1), (Enc.enc (aG_1.2 : List (Int × Int)))]))), (2, (.bool false)), (4, (Enc.enc (r_4.1 : List Int))), (5, (.bool r_4.2)), (7, (encO (.at 7 [0]) (r_6.1 : NL Int))), (10, (.int .i64 1))] ⟨h1, h2, h4, h5, h7, rfl⟩ ?_
    rintro s ⟨h1, h2, h4, h5, h7, h10⟩
    refine .nsq ?_
    refine .seq ?_
    refine run_reg ?_
    refine e_end ?_
    refine g_v (encO (.at 7 [0]) (r_6.1 : NL Int)) (ev_mov h7 ok_encO) ?_
    refine g_v1 (t := 10) (u := (.int .i64 1)) (.int .i64 1) h10 rfl rfl ?_
    obtain ⟨r_14, E_r_14, h⟩ := bind_some h
    obtain ⟨m_15, E_m_15, h⟩ := bind_some h
    refine g_mark (v := (encO (.at 7 [0]) (r_6.1 : NL Int))) rfl (canon_own (o := (r_6.1 : NL Int)) rfl) (rdAll_cons (v := (.int .i64 1)) rfl rfl rdAll_nil) (H.c22 _ _ _ E_r_14) H.g22 rfl rfl (fun s_6 hm_6 => ?_)
    refine g_v1 (t := 64) (u := (.int .i64 r_14.1)) (.int .i64 r_14.1) rfl rfl rfl ?_
    refine g_end ?_
    refine e_end ?_
    refine renew [(1, (.ref (.bx 1) 0 [] (.agg [(.int .i64 aG_1.1), (Enc.enc (aG_1.2 : List (Int × Int)))]))), (2, (.bool false)), (4, (Enc.enc (r_4.1 : List Int))), (5, (.bool r_4.2)), (7, (encO (.at 7 [0]) (m_15 : NL Int))), (10, (.int .i64 r_14.1))] ⟨(show s_6 1 = (.ref (.bx 1) 0 [] (.agg [(.int .i64 aG_1.1), (Enc.enc (aG_1.2 : List (Int × Int)))])) from hm_6 1 (.ref (.bx 1) 0 [] (.agg [(.int .i64 aG_1.1), (Enc.enc (aG_1.2 : List (Int × Int)))])) (.ref (.bx 1) 0 [] (.agg [(.int .i64 aG_1.1), (Enc.enc (aG_1.2 : List (Int × Int)))])) h1 (rem_map rfl (map_bx (killO_ne rfl) (map_agg (maps_cons rfl (maps_cons (Enc.map_enc _ (aG_1.2 : List (Int × Int))) maps_nil)))))), (show s_6 2 = (.bool false) from hm_6 2 (.bool false) (.bool false) h2 (rem_map rfl rfl)), (show s_6 4 = (Enc.enc (r_4.1 : List Int)) from hm_6 4 (Enc.enc (r_4.1 : List Int)) (Enc.enc (r_4.1 : List Int)) h4 (rem_enc (xs := (r_4.1 : List Int)))), (show s_6 5 = (.bool r_4.2) from hm_6 5 (.bool r_4.2) (.bool r_4.2) h5 (rem_map rfl rfl)), (show s_6 7 = (encO (.at 7 [0]) (m_15 : NL Int)) from hm_6 7 (encO (.at 7 [0]) (r_6.1 : NL Int)) (encO (.at 7 [0]) (m_15 : NL Int)) h7 (marked_own (o := (r_6.1 : NL Int)) rfl E_m_15)), rfl⟩ ?_
    rintro s ⟨h1, h2, h4, h5, h7, h10⟩
    refine .nsq ?_
    refine .seq ?_
    refine run_reg ?_
    refine e_end ?_
    refine g_v0 (.int .i64 1) rfl rfl ?_
    refine g_end ?_
    refine e_end ?_
    refine renew [(1, (.ref (.bx 1) 0 [] (.agg [(.int .i64 aG_1.1), (Enc.enc (aG_1.2 : List (Int × Int)))]))), (2, (.bool false)), (4, (Enc.enc (r_4.1 : List Int))), (5, (.bool r_4.2)), (7, (encO (.at 7 [0]) (m_15 : NL Int))), (10, (.int .i64 r_14.1)), (11, (.int .i64 1))] ⟨h1, h2, h4, h5, h7, h10, rfl⟩ ?_
    rintro s ⟨h1, h2, h4, h5, h7, h10, h11⟩
    refine .nsq ?_
    refine .seq ?_
    refine run_reg ?_
    refine e_end ?_
    refine g_v (encO (.at 7 [0]) (m_15 : NL Int)) (ev_mov h7 ok_encO) ?_
    refine g_v1 (t := 11) (u := (.int .i64 1)) (.int .i64 1) h11 rfl rfl ?_
    obtain ⟨r_16, E_r_16, h⟩ := bind_some h
    refine g_call (m := 0) (al := false) (r := (Enc.enc (r_16 : Int))) [Enc.enc (m_15.list : (List Int)), Enc.enc (1 : Int)] (ta_cons (v := (encO (.at 7 [0]) (m_15 : NL Int))) rfl ok_encP (erase_encO (o := m_15)) (ta_cons (v := (.int .i64 1)) rfl rfl rfl ta_nil)) (H.c23 _ _ _ E_r_16) H.g23 rfl rfl rfl rfl ?_
    refine g_v1 (t := 67) (u := (.int .i64 r_16)) (.int .i64 r_16) rfl rfl rfl ?_
    refine g_end ?_
    refine e_end ?_
    refine renew [(1, (.ref (.bx 1) 0 [] (.agg [(.int .i64 aG_1.1), (Enc.enc (aG_1.2 : List (Int × Int)))]))), (2, (.bool false)), (4, (Enc.enc (r_4.1 : List Int))), (5, (.bool r_4.2)), (7, (encO (.at 7 [0]) (m_15 : NL Int))), (10, (.int .i64 r_14.1)), (11, (.int .i64 r_16))] ⟨h1, h2, h4, h5, h7, h10, rfl⟩ ?_
    rintro s ⟨h1, h2, h4, h5, h7, h10, h11⟩
    refine .nsq ?_
    refine .seq ?_
    refine .seq ?_
    refine run_reg ?_
    refine e_end ?_
    refine g_v1 (t := 11) (u := (.int .i64 r_16)) (.int .i64 r_16) h11 rfl rfl ?_
    refine g_v1 (t := 68) (u := (.int .i64 r_16)) (.bool (decide (r_16 < 0))) rfl rfl rfl ?_
    refine g_end ?_
    refine e_end ?_
    refine renew [(1, (.ref (.bx 1) 0 [] (.agg [(.int .i64 aG_1.1), (Enc.enc (aG_1.2 : List (Int × Int)))]))), (2, (.bool false)), (4, (Enc.enc (r_4.1 : List Int))), (5, (.bool r_4.2)), (7, (encO (.at 7 [0]) (m_15 : NL Int))), (10, (.int .i64 r_14.1)), (11, (.int .i64 r_16)), (69, (.bool (decide (r_16 < 0))))] ⟨h1, h2, h4, h5, h7, h10, h11, rfl⟩ ?_
    rintro s ⟨h1, h2, h4, h5, h7, h10, h11, h69⟩
    refine .nsq ?_
    refine run_cond (t := decide (r_16 < 0)) h69 h (fun h => ?_) (fun h => ?_)
    · refine .seq ?_
      refine run_reg ?_
      refine e_end ?_
      refine g_v0 (.bool false) rfl rfl ?_
      refine g_end ?_
      refine e_end ?_
      refine renew [(1, (.ref (.bx 1) 0 [] (.agg [(.int .i64 aG_1.1), (Enc.enc (aG_1.2 : List (Int × Int)))]))), (2, (.bool false)), (4, (Enc.enc (r_4.1 : List Int))), (5, (.bool r_4.2)), (7, (encO (.at 7 [0]) (m_15 : NL Int))), (10, (.int .i64 r_14.1)), (11, (.int .i64 r_16))] ⟨h1, rfl, h4, h5, h7, h10, h11⟩ ?_
      rintro s ⟨h1, h2, h4, h5, h7, h10, h11⟩
      refine .nsq ?_
      refine .ret ?_
      have hr := Option.some.inj h
      subst hr
      exact rrA (res_tmp h2) rfl
    · refine .skip ?_
      refine .nsq ?_
      refine .seq ?_
      refine .seq ?_
      refine run_reg ?_
      refine e_end ?_
      refine g_v1 (t := 11) (u := (.int .i64 r_16)) (.int .i64 r_16) h11 rfl rfl ?_
      refine g_v1 (t := 10) (u := (.int .i64 r_14.1)) (.int .i64 r_14.1) h10 rfl rfl ?_
      refine g_v2 (t1 := 70) (t2 := 71) (u1 := (.int .i64 r_16)) (u2 := (.int .i64 r_14.1)) (.bool (r_16 != r_14.1)) rfl rfl rfl rfl ?_
      refine g_end ?_
      refine e_end ?_
      refine renew [(1, (.ref (.bx 1) 0 [] (.agg [(.int .i64 aG_1.1), (Enc.enc (aG_1.2 : List (Int × Int)))]))), (2, (.bool false)), (4, (Enc.enc (r_4.1 : List Int))), (5, (.bool r_4.2)), (7, (encO (.at 7 [0]) (m_15 : NL Int))), (10, (.int .i64 r_14.1)), (72, (.bool (r_16 != r_14.1)))] ⟨h1, h2, h4, h5, h7, h10, rfl⟩ ?_
      rintro s ⟨h1, h2, h4, h5, h7, h10, h72⟩
      refine .nsq ?_
      refine run_cond (t := (r_16 != r_14.1)) h72 h (fun h => ?_) (fun h => ?_)
      · refine .seq ?_
        refine run_reg ?_
        refine e_end ?_
        refine g_v0 (.bool false) rfl rfl ?_
        refine g_end ?_
        refine e_end ?_
        refine renew [(1, (.ref (.bx 1) 0 [] (.agg [(.int .i64 aG_1.1), (Enc.enc (aG_1.2 : List (Int × Int)))]))), (2, (.bool false)), (4, (Enc.enc (r_4.1 : List Int))), (5, (.bool r_4.2)), (7, (encO (.at 7 [0]) (m_15 : NL Int))), (10, (.int .i64 r_14.1))] ⟨h1, rfl, h4, h5, h7, h10⟩ ?_
        rintro s ⟨h1, h2, h4, h5, h7, h10⟩
        refine .nsq ?_
        refine .ret ?_
        have hr := Option.some.inj h
        subst hr
        exact rrA (res_tmp h2) rfl
      · refine .skip ?_
        refine .nsq ?_
        refine .seq ?_
        refine run_reg ?_
        refine e_clr ?_
        refine e_end ?_
        refine g_v1 (t := 1) (u := (.ref (.bx 1) 0 [] (.agg [(.int .i64 aG_1.1), (Enc.enc (aG_1.2 : List (Int × Int)))]))) (.agg [(.int .i64 aG_1.1), (Enc.enc (aG_1.2 : List (Int × Int)))]) (keep_clear (s := s) (pk := [76]) h1 rfl (map_bx rfl (map_agg (maps_cons rfl (maps_cons (Enc.map_enc _ (aG_1.2 : List (Int × Int))) maps_nil))))) rfl rfl ?_
        obtain ⟨r_17, E_r_17, h⟩ := bind_some h
        refine g_call (m := 0) (al := true) (r := (Enc.enc (r_17 : (Int × (List (Int × Int)))))) [Enc.enc (aG_1 : (Int × (List (Int × Int))))] (ta_cons (v := (.agg [(.int .i64 aG_1.1), (Enc.enc (aG_1.2 : List (Int × Int)))])) rfl rfl (Enc.erase_enc (aG_1 : (Int × (List (Int × Int))))) ta_nil) (H.c17 _ _ E_r_17) H.g17 (hal_of (ht_cons (v := (.agg [(.int .i64 aG_1.1), (Enc.enc (aG_1.2 : List (Int × Int)))])) rfl rfl rfl ht_nil)) rfl rfl rfl ?_
        obtain ⟨r_18, E_r_18, h⟩ := bind_some h
        refine g_callO (m := 1) (al := false) (r := (.tup [(encO .sh (r_18.1 : NL Int)), (Enc.enc (r_18.2 : Bool))])) (v := (.tup [(encO (.at 76 [0]) (r_18.1 : NL Int)), (.bool r_18.2)])) (kk := 1000000018) [Enc.enc (r_17 : (Int × (List (Int × Int))))] (ta_cons (v := (.agg [(.int .i64 r_17.1), (Enc.enc (r_17.2 : List (Int × Int)))])) rfl rfl (Enc.erase_enc (r_17 : (Int × (List (Int × Int))))) ta_nil) (H.c18o _ _ E_r_18) H.g18o rfl (toks_tup (tokss_cons toks_encS (tokss_cons rfl tokss_nil))) (tag_tup (tags_cons tag_encO (tags_cons rfl tags_nil))) rfl (gone_clear (s := s) (pk := [76]) (t := 76) rfl) ?_
        refine g_v1 (t := 76) (u := (.tup [(encO (.at 76 [0]) (r_18.1 : NL Int)), (.bool r_18.2)])) (.tup [(encO (.at 76 [0]) (r_18.1 : NL Int)), (.bool r_18.2)]) rfl rfl rfl ?_
        refine g_v (encO (.at 76 [0]) (r_18.1 : NL Int)) (ev_extN (v := (encO (.at 76 [0]) (r_18.1 : NL Int))) rfl rfl ok_encP) ?_
        refine g_v1 (t := 73) (u := (.tup [(encO (.at 76 [0]) (r_18.1 : NL Int)), (.bool r_18.2)])) (.bool r_18.2) rfl rfl rfl ?_
        refine g_v (encO (.at 76 [0]) (r_18.1 : NL Int)) (ev_mov rfl ok_encO) ?_
        refine g_v1 (t := 78) (u := (.bool r_18.2)) (.bool r_18.2) rfl rfl rfl ?_
        refine g_end ?_
        refine e_home (r := 76) (x := 12) (v := (encO (.at 76 [0]) (r_18.1 : NL Int))) (by exact rfl) ok_encO (fun s_8 hg_8 => ?_)
        refine e_end ?_
        refine renew [(2, (.bool false)), (4, (Enc.enc (r_4.1 : List Int))), (5, (.bool r_4.2)), (7, (encO (.at 7 [0]) (m_15 : NL Int))), (10, (.int .i64 r_14.1)), (12, (encO (.at 12 [0]) (r_18.1 : NL Int))), (13, (.bool r_18.2))] ⟨(hg_8 2 (.bool false) (.bool false) (keep_clear (s := s) (pk := [76]) h2 rfl rfl) rfl), (hg_8 4 (Enc.enc (r_4.1 : List Int)) (Enc.enc (r_4.1 : List Int)) (keep_clear (s := s) (pk := [76]) h4 rfl (Enc.map_enc _ (r_4.1 : List Int))) (Enc.map_enc _ (r_4.1 : List Int))), (hg_8 5 (.bool r_4.2) (.bool r_4.2) (keep_clear (s := s) (pk := [76]) h5 rfl rfl) rfl), (hg_8 7 (encO (.at 7 [0]) (m_15 : NL Int)) (encO (.at 7 [0]) (m_15 : NL Int)) (keep_clear (s := s) (pk := [76]) h7 rfl (map_encO (r := 7) (p := [0]) rfl rfl)) (map_encO (r := 7) (p := [0]) rfl rfl)), (hg_8 10 (.int .i64 r_14.1) (.int .i64 r_14.1) (keep_clear (s := s) (pk := [76]) h10 rfl rfl) rfl), (hg_8 12 (encO (.at 76 [0]) (r_18.1 : NL Int)) (encO (.at 12 [0]) (r_18.1 : NL Int)) rfl (map_encO (r := 76) (p := [0]) rfl rfl)), (hg_8 13 (.bool r_18.2) (.bool r_18.2) rfl rfl)⟩ ?_
        rintro s ⟨h2, h4, h5, h7, h10, h12, h13⟩
        refine .nsq ?_
        refine .seq ?_
        refine .seq ?_
        refine run_reg ?_
        refine e_end ?_
        refine g_v (encO (.at 12 [0]) (r_18.1 : NL Int)) (ev_mov h12 ok_encO) ?_
        refine g_v1 (t := 4) (u := (Enc.enc (r_4.1 : List Int))) (Enc.enc (r_4.1 : List Int)) h4 rfl rfl ?_
        obtain ⟨r_22, E_r_22, h⟩ := bind_some h
        refine g_call (m := 0) (al := false) (r := (Enc.enc (r_22 : Bool))) [Enc.enc (r_18.1.list : (List Int)), Enc.enc (r_4.1 : (List Int))] (ta_cons (v := (encO (.at 12 [0]) (r_18.1 : NL Int))) rfl ok_encP (erase_encO (o := r_18.1)) (ta_cons (v := (Enc.enc (r_4.1 : List Int))) rfl rfl (Enc.erase_enc (r_4.1 : (List Int))) ta_nil)) (H.c19 _ _ _ E_r_22) H.g19 rfl rfl rfl rfl ?_
        refine g_v1 (t := 81) (u := (.bool r_22)) (.bool (!r_22)) rfl rfl rfl ?_
        refine g_v1 (t := 82) (u := (.bool (!r_22))) (.bool (!r_22)) rfl rfl rfl ?_
        refine split_on (c := (!r_22)) h (fun hg5 h => ?_) (fun hg5 h => ?_)
        · refine g_no (Eq.trans (b := .bool (!r_22)) rfl (congrArg V.bool hg5)) ?_
          refine g_no (Eq.trans (b := .bool (!r_22)) rfl (congrArg V.bool hg5)) ?_
          refine g_no (Eq.trans (b := .bool (!r_22)) rfl (congrArg V.bool hg5)) ?_
          refine g_v2 (t1 := 83) (t2 := 86) (u1 := (.bool true)) (u2 := (.tup [])) (.bool true) (Eq.trans (b := .bool (!r_22)) rfl (congrArg V.bool hg5)) rfl rfl rfl ?_
          refine g_end ?_
          refine e_end ?_
          refine renew [(2, (.bool false)), (7, (encO (.at 7 [0]) (m_15 : NL Int))), (10, (.int .i64 r_14.1)), (87, (.bool true))] ⟨h2, h7, h10, rfl⟩ ?_
          rintro s ⟨h2, h7, h10, h87⟩
          exact t_f3_j1 H m_15 r_14 true _ ⟨h2, h7, h10, h87⟩ h
        · refine g_yes (Eq.trans (b := .bool (!r_22)) rfl (congrArg V.bool hg5)) (g_v1 (t := 13) (u := (.bool r_18.2)) (.bool r_18.2) h13 rfl rfl ?_)
          refine g_yes (Eq.trans (b := .bool (!r_22)) rfl (congrArg V.bool hg5)) (g_v1 (t := 5) (u := (.bool r_4.2)) (.bool r_4.2) h5 rfl rfl ?_)
          refine g_yes (Eq.trans (b := .bool (!r_22)) rfl (congrArg V.bool hg5)) (g_v2 (t1 := 84) (t2 := 85) (u1 := (.bool r_18.2)) (u2 := (.bool r_4.2)) (.bool (r_18.2 != r_4.2)) rfl rfl rfl rfl ?_)
          refine g_v2 (t1 := 83) (t2 := 86) (u1 := (.bool false)) (u2 := (.bool (r_18.2 != r_4.2))) (.bool (r_18.2 != r_4.2)) (Eq.trans (b := .bool (!r_22)) rfl (congrArg V.bool hg5)) rfl rfl rfl ?_
          refine g_end ?_
          refine e_end ?_
          refine renew [(2, (.bool false)), (7, (encO (.at 7 [0]) (m_15 : NL Int))), (10, (.int .i64 r_14.1)), (87, (.bool (r_18.2 != r_4.2)))] ⟨h2, h7, h10, rfl⟩ ?_
          rintro s ⟨h2, h7, h10, h87⟩
          exact t_f3_j1 H m_15 r_14 (r_18.2 != r_4.2) _ ⟨h2, h7, h10, h87⟩ h
def w_FnExactLongestPath_j3 (F : Nat) (aG_1 : (Int × (List (Int × Int)))) (r_4 : ((List Int) × Bool)) (r_5 : (Int × (NL (Int × Int)))) (r_6 : ((NL Int) × Bool))  (t40_8 : Bool) : Option Bool :=
  bif t40_8 then
    some false
  else
    (w_toGraph F aG_1).bind fun r_9 =>
    (w_eqGraph F (r_5.1, r_5.2.list) r_9).bind fun r_10 =>
    bif (!r_10) then
      some false
    else
      (w_markGraph F (Og.mk r_5.1 r_5.2 : (Og (Int × Int))) 1).bind fun r_11 =>
      bif decide (r_11 < 0) then
        w_FnExactLongestPath_j2 F aG_1 r_4 r_6 true
      else
        (w_eqIntS F r_6.1.list r_4.1).bind fun r_23 =>
        bif (!r_23) then
          w_FnExactLongestPath_j2 F aG_1 r_4 r_6 true
        else
          w_FnExactLongestPath_j2 F aG_1 r_4 r_6 (r_6.2 != r_4.2)
theorem t_f3_j3 (H : H3 D σ F) (aG_1 : (Int × (List (Int × Int)))) (r_4 : ((List Int) × Bool)) (r_5 : (Int × (NL (Int × Int)))) (r_6 : ((NL Int) × Bool))  (t40_8 : Bool) (s : Nat → V) (hs : Facts [(1, (.ref (.bx 1) 0 [] (.agg [(.int .i64 aG_1.1), (Enc.enc (aG_1.2 : List (Int × Int)))]))), (2, (.bool false)), (4, (Enc.enc (r_4.1 : List Int))), (5, (.bool r_4.2)), (6, (.ref (.bx 6) 0 [] (.agg [(.int .i64 r_5.1), (encO (.at 26 [1]) (r_5.2 : NL (Int × Int)))]))), (7, (encO (.at 7 [0]) (r_6.1 : NL Int))), (8, (.bool r_6.2)), (40, (.bool t40_8))] s) (h : w_FnExactLongestPath_j3 F aG_1 r_4 r_5 r_6  t40_8 = some r) : Run D σ (R3 r) (.nrm [.sq A3_20, .sq A3_21]) s := by
  unfold w_FnExactLongestPath_j3 at h
  obtain ⟨h1, h2, h4, h5, h6, h7, h8, h40⟩ := hs
  refine .nsq ?_
  refine run_cond (t := t40_8) h40 h (fun h => ?_) (fun h => ?_)
  · refine .seq ?_
    refine run_reg ?_
    refine e_end ?_
    refine g_v0 (.bool false) rfl rfl ?_
    refine g_end ?_
    refine e_end ?_
    refine renew [(1, (.ref (.bx 1) 0 [] (.agg [(.int .i64 aG_1.1), (Enc.enc (aG_1.2 : List (Int × Int)))]))), (2, (.bool false)), (4, (Enc.enc (r_4.1 : List Int))), (5, (.bool r_4.2)), (6, (.ref (.bx 6) 0 [] (.agg [(.int .i64 r_5.1), (encO (.at 26 [1]) (r_5.2 : NL (Int × Int)))]))), (7, (encO (.at 7 [0]) (r_6.1 : NL Int))), (8, (.bool r_6.2))] ⟨h1, rfl, h4, h5, h6, h7, h8⟩ ?_
    rintro s ⟨h1, h2, h4, h5, h6, h7, h8⟩
    refine .nsq ?_
    refine .ret ?_
    have hr := Option.some.inj h
    subst hr
    exact rrA (res_tmp h2) rfl
  · refine .skip ?_
    refine .nsq ?_
    refine .seq ?_
    refine .seq ?_
    refine run_reg ?_
    refine e_end ?_
    refine g_v (.agg [(.int .i64 r_5.1), (encO (.at 26 [1]) (r_5.2 : NL (Int × Int)))]) (ev_loadN (c := (.agg [(.int .i64 r_5.1), (encO (.at 26 [1]) (r_5.2 : NL (Int × Int)))])) h6 (by simp [V.shape, V.shapes, shape_encP, Sh.beq, Sh.beqs])) ?_
    refine g_v1 (t := 1) (u := (.ref (.bx 1) 0 [] (.agg [(.int .i64 aG_1.1), (Enc.enc (aG_1.2 : List (Int × Int)))]))) (.agg [(.int .i64 aG_1.1), (Enc.enc (aG_1.2 : List (Int × Int)))]) h1 rfl rfl ?_
    obtain ⟨r_9, E_r_9, h⟩ := bind_some h
    refine g_call (m := 0) (al := true) (r := (Enc.enc (r_9 : (Int × (List (Int × Int)))))) [Enc.enc (aG_1 : (Int × (List (Int × Int))))] (ta_cons (v := (.agg [(.int .i64 aG_1.1), (Enc.enc (aG_1.2 : List (Int × Int)))])) rfl rfl (Enc.erase_enc (aG_1 : (Int × (List (Int × Int))))) ta_nil) (H.c17 _ _ E_r_9) H.g17 (hal_of (ht_cons (v := (.agg [(.int .i64 aG_1.1), (Enc.enc (aG_1.2 : List (Int × Int)))])) rfl rfl rfl ht_nil)) rfl rfl rfl ?_
    obtain ⟨r_10, E_r_10, h⟩ := bind_some h
    refine g_call (m := 0) (al := false) (r := (Enc.enc (r_10 : Bool))) [Enc.enc ((r_5.1, r_5.2.list) : (Int × (List (Int × Int)))), Enc.enc (r_9 : (Int × (List (Int × Int))))] (ta_cons (v := (.agg [(.int .i64 r_5.1), (encO (.at 26 [1]) (r_5.2 : NL (Int × Int)))])) rfl rfl (erase_agg (erases_cons rfl (erases_cons (erase_encO (o := r_5.2)) erases_nil))) (ta_cons (v := (.agg [(.int .i64 r_9.1), (Enc.enc (r_9.2 : List (Int × Int)))])) rfl rfl (Enc.erase_enc (r_9 : (Int × (List (Int × Int))))) ta_nil)) (H.c20 _ _ _ E_r_10) H.g20 rfl rfl rfl rfl ?_
    refine g_v1 (t := 44) (u := (.bool r_10)) (.bool (!r_10)) rfl rfl rfl ?_
    refine g_end ?_
    refine e_end ?_
    refine renew [(1, (.ref (.bx 1) 0 [] (.agg [(.int .i64 aG_1.1), (Enc.enc (aG_1.2 : List (Int × Int)))]))), (2, (.bool false)), (4, (Enc.enc (r_4.1 : List Int))), (5, (.bool r_4.2)), (6, (.ref (.bx 6) 0 [] (.agg [(.int .i64 r_5.1), (encO (.at 26 [1]) (r_5.2 : NL (Int × Int)))]))), (7, (encO (.at 7 [0]) (r_6.1 : NL Int))), (8, (.bool r_6.2)), (45, (.bool (!r_10)))] ⟨h1, h2, h4, h5, h6, h7, h8, rfl⟩ ?_
    rintro s ⟨h1, h2, h4, h5, h6, h7, h8, h45⟩
    refine .nsq ?_
    refine run_cond (t := (!r_10)) h45 h (fun h => ?_) (fun h => ?_)
    · refine .seq ?_
      refine run_reg ?_
      refine e_end ?_
      refine g_v0 (.bool false) rfl rfl ?_
      refine g_end ?_
      refine e_end ?_
      refine renew [(1, (.ref (.bx 1) 0 [] (.agg [(.int .i64 aG_1.1), (Enc.enc (aG_1.2 : List (Int × Int)))]))), (2, (.bool false)), (4, (Enc.enc (r_4.1 : List Int))), (5, (.bool r_4.2)), (6, (.ref (.bx 6) 0 [] (.agg [(.int .i64 r_5.1), (encO (.at 26 [1]) (r_5.2 : NL (Int × Int)))]))), (7, (encO (.at 7 [0]) (r_6.1 : NL Int))), (8, (.bool r_6.2))] ⟨h1, rfl, h4, h5, h6, h7, h8⟩ ?_
      rintro s ⟨h1, h2, h4, h5, h6, h7, h8⟩
      refine .nsq ?_
      refine .ret ?_
      have hr := Option.some.inj h
      subst hr
      exact rrA (res_tmp h2) rfl
    · refine .skip ?_
      refine .nsq ?_
      refine .seq ?_
      refine run_reg ?_
      refine e_end ?_
      refine g_v0 (.int .i64 1) rfl rfl ?_
      refine g_end ?_
      refine e_end ?_
      refine renew [(1, (.ref (.bx 1) 0 [] (.agg [(.int .i64 aG_1.1), (Enc.enc (aG_1.2 : List (Int × Int)))]))), (2, (.bool false)), (4, (Enc.enc (r_4.1 : List Int))), (5, (.bool r_4.2)), (6, (.ref (.bx 6) 0 [] (.agg [(.int .i64 r_5.1), (encO (.at 26 [1]) (r_5.2 : NL (Int × Int)))]))), (7, (encO (.at 7 [0]) (r_6.1 : NL Int))), (8, (.bool r_6.2)), (9, (.int .i64 1))] ⟨h1, h2, h4, h5, h6, h7, h8, rfl⟩ ?_
      rintro s ⟨h1, h2, h4, h5, h6, h7, h8, h9⟩
      refine .nsq ?_
      refine .seq ?_
      refine run_reg ?_
      refine e_end ?_
      refine g_v (.agg [(.int .i64 r_5.1), (encO (.at 26 [1]) (r_5.2 : NL (Int × Int)))]) (ev_loadN (c := (.agg [(.int .i64 r_5.1), (encO (.at 26 [1]) (r_5.2 : NL (Int × Int)))])) h6 (by simp [V.shape, V.shapes, shape_encP, Sh.beq, Sh.beqs])) ?_
      refine g_v1 (t := 9) (u := (.int .i64 1)) (.int .i64 1) h9 rfl rfl ?_
      obtain ⟨r_11, E_r_11, h⟩ := bind_some h
      refine g_mark (v := (.agg [(.int .i64 r_5.1), (encO (.at 26 [1]) (r_5.2 : NL (Int × Int)))])) rfl (canon_agg (a := r_5.1) (o := (r_5.2 : NL (Int × Int))) rfl) (rdAll_cons (v := (.int .i64 1)) rfl rfl rdAll_nil) (H.c21 _ _ _ E_r_11) H.g21 rfl rfl (fun s_5 hm_5 => ?_)
      refine g_v1 (t := 48) (u := (.int .i64 r_11)) (.int .i64 r_11) rfl rfl rfl ?_
      refine g_end ?_
      refine e_end ?_
      refine renew [(1, (.ref (.bx 1) 0 [] (.agg [(.int .i64 aG_1.1), (Enc.enc (aG_1.2 : List (Int × Int)))]))), (2, (.bool false)), (4, (Enc.enc (r_4.1 : List Int))), (5, (.bool r_4.2)), (7, (encO (.at 7 [0]) (r_6.1 : NL Int))), (8, (.bool r_6.2)), (9, (.int .i64 r_11))] ⟨(show s_5 1 = (.ref (.bx 1) 0 [] (.agg [(.int .i64 aG_1.1), (Enc.enc (aG_1.2 : List (Int × Int)))])) from hm_5 1 (.ref (.bx 1) 0 [] (.agg [(.int .i64 aG_1.1), (Enc.enc (aG_1.2 : List (Int × Int)))])) (.ref (.bx 1) 0 [] (.agg [(.int .i64 aG_1.1), (Enc.enc (aG_1.2 : List (Int × Int)))])) h1 (rem_map rfl (map_bx (killO_ne rfl) (map_agg (maps_cons rfl (maps_cons (Enc.map_enc _ (aG_1.2 : List (Int × Int))) maps_nil)))))), (show s_5 2 = (.bool false) from hm_5 2 (.bool false) (.bool false) h2 (rem_map rfl rfl)), (show s_5 4 = (Enc.enc (r_4.1 : List Int)) from hm_5 4 (Enc.enc (r_4.1 : List Int)) (Enc.enc (r_4.1 : List Int)) h4 (rem_enc (xs := (r_4.1 : List Int)))), (show s_5 5 = (.bool r_4.2) from hm_5 5 (.bool r_4.2) (.bool r_4.2) h5 (rem_map rfl rfl)), (show s_5 7 = (encO (.at 7 [0]) (r_6.1 : NL Int)) from hm_5 7 (encO (.at 7 [0]) (r_6.1 : NL Int)) (encO (.at 7 [0]) (r_6.1 : NL Int)) h7 (rem_own (r := 7) (p := [0]) (o := (r_6.1 : NL Int)) rfl rfl)), (show s_5 8 = (.bool r_6.2) from hm_5 8 (.bool r_6.2) (.bool r_6.2) h8 (rem_map rfl rfl)), rfl⟩ ?_
      rintro s ⟨h1, h2, h4, h5, h7, h8, h9⟩
      refine .nsq ?_
      refine .seq ?_
      refine .seq ?_
      refine run_reg ?_
      refine e_end ?_
      refine g_v1 (t := 9) (u := (.int .i64 r_11)) (.int .i64 r_11) h9 rfl rfl ?_
      refine g_v1 (t := 49) (u := (.int .i64 r_11)) (.bool (decide (r_11 < 0))) rfl rfl rfl ?_
      refine g_v1 (t := 50) (u := (.bool (decide (r_11 < 0)))) (.bool (decide (r_11 < 0))) rfl rfl rfl ?_
      refine split_on (c := decide (r_11 < 0)) h (fun hg3 h => ?_) (fun hg3 h => ?_)
      · refine g_no (Eq.trans (b := .bool (decide (r_11 < 0))) rfl (congrArg V.bool hg3)) ?_
        refine g_no (Eq.trans (b := .bool (decide (r_11 < 0))) rfl (congrArg V.bool hg3)) ?_
        refine g_no (Eq.trans (b := .bool (decide (r_11 < 0))) rfl (congrArg V.bool hg3)) ?_
        refine g_no (Eq.trans (b := .bool (decide (r_11 < 0))) rfl (congrArg V.bool hg3)) ?_
        refine g_v2 (t1 := 51) (t2 := 55) (u1 := (.bool true)) (u2 := (.tup [])) (.bool true) (Eq.trans (b := .bool (decide (r_11 < 0))) rfl (congrArg V.bool hg3)) rfl rfl rfl ?_
        refine g_v1 (t := 56) (u := (.bool true)) (.bool true) rfl rfl rfl ?_
        refine g_no rfl ?_
        refine g_no rfl ?_
        refine g_no rfl ?_
        refine g_v2 (t1 := 57) (t2 := 60) (u1 := (.bool true)) (u2 := (.tup [])) (.bool true) rfl rfl rfl rfl ?_
        refine g_end ?_
        refine e_end ?_
        refine renew [(1, (.ref (.bx 1) 0 [] (.agg [(.int .i64 aG_1.1), (Enc.enc (aG_1.2 : List (Int × Int)))]))), (2, (.bool false)), (4, (Enc.enc (r_4.1 : List Int))), (5, (.bool r_4.2)), (7, (encO (.at 7 [0]) (r_6.1 : NL Int))), (61, (.bool true))] ⟨h1, h2, h4, h5, h7, rfl⟩ ?_
        rintro s ⟨h1, h2, h4, h5, h7, h61⟩
        exact t_f3_j2 H aG_1 r_4 r_6 true _ ⟨h1, h2, h4, h5, h7, h61⟩ h
      · refine g_yes (Eq.trans (b := .bool (decide (r_11 < 0))) rfl (congrArg V.bool hg3)) (g_v (encO (.at 7 [0]) (r_6.1 : NL Int)) (ev_mov h7 ok_encO) ?_)
        refine g_yes (Eq.trans (b := .bool (decide (r_11 < 0))) rfl (congrArg V.bool hg3)) (g_v1 (t := 4) (u := (Enc.enc (r_4.1 : List Int))) (Enc.enc (r_4.1 : List Int)) h4 rfl rfl ?_)
        obtain ⟨r_23, E_r_23, h⟩ := bind_some h
        refine g_yes (Eq.trans (b := .bool (decide (r_11 < 0))) rfl (congrArg V.bool hg3)) (g_call (m := 0) (al := false) (r := (Enc.enc (r_23 : Bool))) [Enc.enc (r_6.1.list : (List Int)), Enc.enc (r_4.1 : (List Int))] (ta_cons (v := (encO (.at 7 [0]) (r_6.1 : NL Int))) rfl ok_encP (erase_encO (o := r_6.1)) (ta_cons (v := (Enc.enc (r_4.1 : List Int))) rfl rfl (Enc.erase_enc (r_4.1 : (List Int))) ta_nil)) (H.c19 _ _ _ E_r_23) H.g19 rfl rfl rfl rfl ?_)
        refine g_yes (Eq.trans (b := .bool (decide (r_11 < 0))) rfl (congrArg V.bool hg3)) (g_v1 (t := 54) (u := (.bool r_23)) (.bool (!r_23)) rfl rfl rfl ?_)
        refine g_v2 (t1 := 51) (t2 := 55) (u1 := (.bool false)) (u2 := (.bool (!r_23))) (.bool (!r_23)) (Eq.trans (b := .bool (decide (r_11 < 0))) rfl (congrArg V.bool hg3)) rfl rfl rfl ?_
        refine g_v1 (t := 56) (u := (.bool (!r_23))) (.bool (!r_23)) rfl rfl rfl ?_
        refine split_on (c := (!r_23)) h (fun hg9 h => ?_) (fun hg9 h => ?_)
        · refine g_no (Eq.trans (b := .bool (!r_23)) rfl (congrArg V.bool hg9)) ?_
          refine g_no (Eq.trans (b := .bool (!r_23)) rfl (congrArg V.bool hg9)) ?_
          refine g_no (Eq.trans (b := .bool (!r_23)) rfl (congrArg V.bool hg9)) ?_
          refine g_v2 (t1 := 57) (t2 := 60) (u1 := (.bool true)) (u2 := (.tup [])) (.bool true) (Eq.trans (b := .bool (!r_23)) rfl (congrArg V.bool hg9)) rfl rfl rfl ?_
          refine g_end ?_
          refine e_end ?_
          refine renew [(1, (.ref (.bx 1) 0 [] (.agg [(.int .i64 aG_1.1), (Enc.enc (aG_1.2 : List (Int × Int)))]))), (2, (.bool false)), (4, (Enc.enc (r_4.1 : List Int))), (5, (.bool r_4.2)), (7, (encO (.at 7 [0]) (r_6.1 : NL Int))), (61, (.bool true))] ⟨h1, h2, h4, h5, h7, rfl⟩ ?_
          rintro s ⟨h1, h2, h4, h5, h7, h61⟩
          exact t_f3_j2 H aG_1 r_4 r_6 true _ ⟨h1, h2, h4, h5, h7, h61⟩ h
        · refine g_yes (Eq.trans (b := .bool (!r_23)) rfl (congrArg V.bool hg9)) (g_v1 (t := 8) (u := (.bool r_6.2)) (.bool r_6.2) h8 rfl rfl ?_)
          refine g_yes (Eq.trans (b := .bool (!r_23)) rfl (congrArg V.bool hg9)) (g_v1 (t := 5) (u := (.bool r_4.2)) (.bool r_4.2) h5 rfl rfl ?_)
          refine g_yes (Eq.trans (b := .bool (!r_23)) rfl (congrArg V.bool hg9)) (g_v2 (t1 := 58) (t2 := 59) (u1 := (.bool r_6.2)) (u2 := (.bool r_4.2)) (.bool (r_6.2 != r_4.2)) rfl rfl rfl rfl ?_)
          refine g_v2 (t1 := 57) (t2 := 60) (u1 := (.bool false)) (u2 := (.bool (r_6.2 != r_4.2))) (.bool (r_6.2 != r_4.2)) (Eq.trans (b := .bool (!r_23)) rfl (congrArg V.bool hg9)) rfl rfl rfl ?_
          refine g_end ?_
          refine e_end ?_
          refine renew [(1, (.ref (.bx 1) 0 [] (.agg [(.int .i64 aG_1.1), (Enc.enc (aG_1.2 : List (Int × Int)))]))), (2, (.bool false)), (4, (Enc.enc (r_4.1 : List Int))), (5, (.bool r_4.2)), (7, (encO (.at 7 [0]) (r_6.1 : NL Int))), (61, (.bool (r_6.2 != r_4.2)))] ⟨h1, h2, h4, h5, h7, rfl⟩ ?_
          rintro s ⟨h1, h2, h4, h5, h7, h61⟩
          exact t_f3_j2 H aG_1 r_4 r_6 (r_6.2 != r_4.2) _ ⟨h1, h2, h4, h5, h7, h61⟩ h
def w_FnExactLongestPath (F : Nat) (aG_1 : (Int × (List (Int × Int)))) : Option Bool :=
  (w_szGraph F aG_1 1048576).bind fun r_2 =>
  bif decide (r_2 < 0) then
    some true
  else
    (w_toGraph F aG_1).bind fun r_3 =>
    (s_LongestPath F r_3).bind fun r_4 =>
    (w_toGraph_o F aG_1).bind fun r_5 =>
    (i_LongestPath_o F (r_5.1, r_5.2.list)).bind fun r_6 =>
    (w_eqIntS F r_6.1.list r_4.1).bind fun r_24 =>
    bif (!r_24) then
      w_FnExactLongestPath_j3 F aG_1 r_4 r_5 r_6 true
    else
      w_FnExactLongestPath_j3 F aG_1 r_4 r_5 r_6 (r_6.2 != r_4.2)
theorem t3 (H : H3 D σ F) (aG_1 : (Int × (List (Int × Int)))) (s : Nat → V) (hs : Facts [(0, (.agg [(.int .i64 aG_1.1), (Enc.enc (aG_1.2 : List (Int × Int)))]))] s) (h : w_FnExactLongestPath F aG_1 = some r) : Run D σ (R3 r) (.run A3 []) s := by
  unfold w_FnExactLongestPath at h
  have h0 := hs
  refine .seq ?_
  refine run_reg ?_
  refine e_clr ?_
  refine e_end ?_
  refine g_box (.agg [(.int .i64 aG_1.1), (Enc.enc (aG_1.2 : List (Int × Int)))]) (rd_of (keep_clear (s := s) (pk := [1]) h0 rfl (map_agg (maps_cons rfl (maps_cons (Enc.map_enc _ (aG_1.2 : List (Int × Int))) maps_nil)))) rfl) (gone_clear (s := s) (pk := [1]) (t := 1) rfl) rfl ?_
  refine g_v0 (.bool false) rfl rfl ?_
  refine g_end ?_
  refine e_end ?_
  refine renew [(1, (.ref (.bx 1) 0 [] (.agg [(.int .i64 aG_1.1), (Enc.enc (aG_1.2 : List (Int × Int)))]))), (2, (.bool false))] ⟨rfl, rfl⟩ ?_
  rintro s ⟨h1, h2⟩
  refine .nsq ?_
  refine .seq ?_
  refine run_reg ?_
  refine e_end ?_
  refine g_v0 (.int .i64 1048576) rfl rfl ?_
  refine g_end ?_
  refine e_end ?_
  refine renew [(1, (.ref (.bx 1) 0 [] (.agg [(.int .i64 aG_1.1), (Enc.enc (aG_1.2 : List (Int × Int)))]))), (2, (.bool false)), (3, (.int .i64 1048576))] ⟨h1, h2, rfl⟩ ?_
  rintro s ⟨h1, h2, h3⟩
  refine .nsq ?_
  refine .seq ?_
  refine run_reg ?_
  refine e_end ?_
  refine g_v1 (t := 1) (u := (.ref (.bx 1) 0 [] (.agg [(.int .i64 aG_1.1), (Enc.enc (aG_1.2 : List (Int × Int)))]))) (.agg [(.int .i64 aG_1.1), (Enc.enc (aG_1.2 : List (Int × Int)))]) h1 rfl rfl ?_
  refine g_v1 (t := 3) (u := (.int .i64 1048576)) (.int .i64 1048576) h3 rfl rfl ?_
  obtain ⟨r_2, E_r_2, h⟩ := bind_some h
  refine g_call (m := 0) (al := false) (r := (Enc.enc (r_2 : Int))) [Enc.enc (aG_1 : (Int × (List (Int × Int)))), Enc.enc (1048576 : Int)] (ta_cons (v := (.agg [(.int .i64 aG_1.1), (Enc.enc (aG_1.2 : List (Int × Int)))])) rfl rfl (Enc.erase_enc (aG_1 : (Int × (List (Int × Int))))) (ta_cons (v := (.int .i64 1048576)) rfl rfl rfl ta_nil)) (H.c15 _ _ _ E_r_2) H.g15 rfl rfl rfl rfl ?_
  refine g_v1 (t := 16) (u := (.int .i64 r_2)) (.int .i64 r_2) rfl rfl rfl ?_
  refine g_end ?_
  refine e_end ?_
  refine renew [(1, (.ref (.bx 1) 0 [] (.agg [(.int .i64 aG_1.1), (Enc.enc (aG_1.2 : List (Int × Int)))]))), (2, (.bool false)), (3, (.int .i64 r_2))] ⟨h1, h2, rfl⟩ ?_
  rintro s ⟨h1, h2, h3⟩
  refine .nsq ?_
  refine .seq ?_
  refine .seq ?_
  refine run_reg ?_
  refine e_end ?_
  refine g_v1 (t := 3) (u := (.int .i64 r_2)) (.int .i64 r_2) h3 rfl rfl ?_
  refine g_v1 (t := 17) (u := (.int .i64 r_2)) (.bool (decide (r_2 < 0))) rfl rfl rfl ?_
  refine g_end ?_
  refine e_end ?_
  refine renew [(1, (.ref (.bx 1) 0 [] (.agg [(.int .i64 aG_1.1), (Enc.enc (aG_1.2 : List (Int × Int)))]))), (2, (.bool false)), (18, (.bool (decide (r_2 < 0))))] ⟨h1, h2, rfl⟩ ?_
  rintro s ⟨h1, h2, h18⟩
  refine .nsq ?_
  refine run_cond (t := decide (r_2 < 0)) h18 h (fun h => ?_) (fun h => ?_)
  · refine .seq ?_
    refine run_reg ?_
    refine e_end ?_
    refine g_v0 (.bool true) rfl rfl ?_
    refine g_end ?_
    refine e_end ?_
    refine renew [(1, (.ref (.bx 1) 0 [] (.agg [(.int .i64 aG_1.1), (Enc.enc (aG_1.2 : List (Int × Int)))]))), (2, (.bool true))] ⟨h1, rfl⟩ ?_
    rintro s ⟨h1, h2⟩
    refine .nsq ?_
    refine .ret ?_
    have hr := Option.some.inj h
    subst hr
    exact rrA (res_tmp h2) rfl
  · refine .skip ?_
    refine .nsq ?_
    refine .seq ?_
    refine run_reg ?_
    refine e_end ?_
    refine g_v1 (t := 1) (u := (.ref (.bx 1) 0 [] (.agg [(.int .i64 aG_1.1), (Enc.enc (aG_1.2 : List (Int × Int)))]))) (.agg [(.int .i64 aG_1.1), (Enc.enc (aG_1.2 : List (Int × Int)))]) h1 rfl rfl ?_
    obtain ⟨r_3, E_r_3, h⟩ := bind_some h
    refine g_call (m := 0) (al := true) (r := (Enc.enc (r_3 : (Int × (List (Int × Int)))))) [Enc.enc (aG_1 : (Int × (List (Int × Int))))] (ta_cons (v := (.agg [(.int .i64 aG_1.1), (Enc.enc (aG_1.2 : List (Int × Int)))])) rfl rfl (Enc.erase_enc (aG_1 : (Int × (List (Int × Int))))) ta_nil) (H.c17 _ _ E_r_3) H.g17 (hal_of (ht_cons (v := (.agg [(.int .i64 aG_1.1), (Enc.enc (aG_1.2 : List (Int × Int)))])) rfl rfl rfl ht_nil)) rfl rfl rfl ?_
    obtain ⟨r_4, E_r_4, h⟩ := bind_some h
    refine g_call (m := 0) (al := true) (r := (.tup [Enc.enc (r_4.1 : (List Int)), Enc.enc (r_4.2 : Bool)])) [Enc.enc (r_3 : (Int × (List (Int × Int))))] (ta_cons (v := (.agg [(.int .i64 r_3.1), (Enc.enc (r_3.2 : List (Int × Int)))])) rfl rfl (Enc.erase_enc (r_3 : (Int × (List (Int × Int))))) ta_nil) (H.c16 _ _ E_r_4) H.g16 (hal_of (ht_cons (v := (.agg [(.int .i64 r_3.1), (Enc.enc (r_3.2 : List (Int × Int)))])) rfl rfl rfl ht_nil)) rfl rfl rfl ?_
    refine g_v1 (t := 22) (u := (.tup [(Enc.enc (r_4.1 : List Int)), (.bool r_4.2)])) (.tup [(Enc.enc (r_4.1 : List Int)), (.bool r_4.2)]) rfl rfl rfl ?_
    refine g_v1 (t := 19) (u := (.tup [(Enc.enc (r_4.1 : List Int)), (.bool r_4.2)])) (Enc.enc (r_4.1 : List Int)) rfl rfl rfl ?_
    refine g_v1 (t := 19) (u := (.tup [(Enc.enc (r_4.1 : List Int)), (.bool r_4.2)])) (.bool r_4.2) rfl rfl rfl ?_
    refine g_v1 (t := 23) (u := (Enc.enc (r_4.1 : List Int))) (Enc.enc (r_4.1 : List Int)) rfl rfl rfl ?_
    refine g_v1 (t := 24) (u := (.bool r_4.2)) (.bool r_4.2) rfl rfl rfl ?_
    refine g_end ?_
    refine e_end ?_
    refine renew [(1, (.ref (.bx 1) 0 [] (.agg [(.int .i64 aG_1.1), (Enc.enc (aG_1.2 : List (Int × Int)))]))), (2, (.bool false)), (4, (Enc.enc (r_4.1 : List Int))), (5, (.bool r_4.2))] ⟨h1, h2, rfl, rfl⟩ ?_
    rintro s ⟨h1, h2, h4, h5⟩
    refine .nsq ?_
    refine .seq ?_
    refine run_reg ?_
    refine e_clr ?_
    refine e_end ?_
    refine g_v1 (t := 1) (u := (.ref (.bx 1) 0 [] (.agg [(.int .i64 aG_1.1), (Enc.enc (aG_1.2 : List (Int × Int)))]))) (.agg [(.int .i64 aG_1.1), (Enc.enc (aG_1.2 : List (Int × Int)))]) (keep_clear (s := s) (pk := [26, 6]) h1 rfl (map_bx rfl (map_agg (maps_cons rfl (maps_cons (Enc.map_enc _ (aG_1.2 : List (Int × Int))) maps_nil))))) rfl rfl ?_
    obtain ⟨r_5, E_r_5, h⟩ := bind_some h
    refine g_callO (m := 1) (al := false) (r := (.agg [(Enc.enc (r_5.1 : Int)), (encO .sh (r_5.2 : NL (Int × Int)))])) (v := (.agg [(.int .i64 r_5.1), (encO (.at 26 [1]) (r_5.2 : NL (Int × Int)))])) (kk := 1000000017) [Enc.enc (aG_1 : (Int × (List (Int × Int))))] (ta_cons (v := (.agg [(.int .i64 aG_1.1), (Enc.enc (aG_1.2 : List (Int × Int)))])) rfl rfl (Enc.erase_enc (aG_1 : (Int × (List (Int × Int))))) ta_nil) (H.c17o _ _ E_r_5) H.g17o rfl (toks_agg (tokss_cons rfl (tokss_cons toks_encS tokss_nil))) (tag_agg (tags_cons rfl (tags_cons tag_encO tags_nil))) rfl (gone_clear (s := s) (pk := [26, 6]) (t := 26) rfl) ?_
    refine g_alloc (gone_clear (s := s) (pk := [26, 6]) (t := 6) rfl) ?_
    refine g_store (.agg [(.int .i64 r_5.1), (encO (.at 26 [1]) (r_5.2 : NL (Int × Int)))]) (rd_of rfl rfl) (rd_of rfl rfl) ⟨by decide, by decide, rfl, (by simp [V.shape, V.shapes, shape_encP, Sh.beq, Sh.beqs]), (by simp [V.shape, V.shapes, shape_encP, Sh.beq, Sh.beqs]), (by simp [V.toks, V.tokss, tok_memP])⟩ ?_
    refine g_end ?_
    refine e_end ?_
    refine renew [(1, (.ref (.bx 1) 0 [] (.agg [(.int .i64 aG_1.1), (Enc.enc (aG_1.2 : List (Int × Int)))]))), (2, (.bool false)), (4, (Enc.enc (r_4.1 : List Int))), (5, (.bool r_4.2)), (6, (.ref (.bx 6) 0 [] (.agg [(.int .i64 r_5.1), (encO (.at 26 [1]) (r_5.2 : NL (Int × Int)))])))] ⟨(keep_mut (keep_clear (s := s) (pk := [26, 6]) h1 rfl (map_bx rfl (map_agg (maps_cons rfl (maps_cons (Enc.map_enc _ (aG_1.2 : List (Int × Int))) maps_nil))))) (mut_ref_ne rfl rfl (mut_agg (muts_cons rfl (muts_cons (Enc.mut_enc _ _ _ _ (aG_1.2 : List (Int × Int))) rfl))))), (keep_mut (keep_clear (s := s) (pk := [26, 6]) h2 rfl rfl) rfl), (keep_mut (keep_clear (s := s) (pk := [26, 6]) h4 rfl (Enc.map_enc _ (r_4.1 : List Int))) (Enc.mut_enc _ _ _ _ (r_4.1 : List Int))), (keep_mut (keep_clear (s := s) (pk := [26, 6]) h5 rfl rfl) rfl), (keep_mut rfl rfl)⟩ ?_
    rintro s ⟨h1, h2, h4, h5, h6⟩
    refine .nsq ?_
    refine .seq ?_
    refine run_reg ?_
    refine e_clr ?_
    refine e_end ?_
    refine g_v (.agg [(.int .i64 r_5.1), (encO (.at 26 [1]) (r_5.2 : NL (Int × Int)))]) (ev_loadN (c := (.agg [(.int .i64 r_5.1), (encO (.at 26 [1]) (r_5.2 : NL (Int × Int)))])) (keep_clear (s := s) (pk := [29]) h6 rfl (map_bx rfl (map_agg (maps_cons rfl (maps_cons (map_encO (r := 26) (p := [1]) rfl rfl) maps_nil))))) (by simp [V.shape, V.shapes, shape_encP, Sh.beq, Sh.beqs])) ?_
    obtain ⟨r_6, E_r_6, h⟩ := bind_some h
    refine g_callO (m := 1) (al := false) (r := (.tup [(encO .sh (r_6.1 : NL Int)), (Enc.enc (r_6.2 : Bool))])) (v := (.tup [(encO (.at 29 [0]) (r_6.1 : NL Int)), (.bool r_6.2)])) (kk := 1000000018) [Enc.enc ((r_5.1, r_5.2.list) : (Int × (List (Int × Int))))] (ta_cons (v := (.agg [(.int .i64 r_5.1), (encO (.at 26 [1]) (r_5.2 : NL (Int × Int)))])) rfl rfl (erase_agg (erases_cons rfl (erases_cons (erase_encO (o := r_5.2)) erases_nil))) ta_nil) (H.c18o _ _ E_r_6) H.g18o rfl (toks_tup (tokss_cons toks_encS (tokss_cons rfl tokss_nil))) (tag_tup (tags_cons tag_encO (tags_cons rfl tags_nil))) rfl (gone_clear (s := s) (pk := [29]) (t := 29) rfl) ?_
    refine g_v1 (t := 29) (u := (.tup [(encO (.at 29 [0]) (r_6.1 : NL Int)), (.bool r_6.2)])) (.tup [(encO (.at 29 [0]) (r_6.1 : NL Int)), (.bool r_6.2)]) rfl rfl rfl ?_
    refine g_v (encO (.at 29 [0]) (r_6.1 : NL Int)) (ev_extN (v := (encO (.at 29 [0]) (r_6.1 : NL Int))) rfl rfl ok_encP) ?_
    refine g_v1 (t := 27) (u := (.tup [(encO (.at 29 [0]) (r_6.1 : NL Int)), (.bool r_6.2)])) (.bool r_6.2) rfl rfl rfl ?_
    refine g_v (encO (.at 29 [0]) (r_6.1 : NL Int)) (ev_mov rfl ok_encO) ?_
    refine g_v1 (t := 31) (u := (.bool r_6.2)) (.bool r_6.2) rfl rfl rfl ?_
    refine g_end ?_
    refine e_home (r := 29) (x := 7) (v := (encO (.at 29 [0]) (r_6.1 : NL Int))) (by exact rfl) ok_encO (fun s_4 hg_4 => ?_)
    refine e_end ?_
    refine renew [(1, (.ref (.bx 1) 0 [] (.agg [(.int .i64 aG_1.1), (Enc.enc (aG_1.2 : List (Int × Int)))]))), (2, (.bool false)), (4, (Enc.enc (r_4.1 : List Int))), (5, (.bool r_4.2)), (6, (.ref (.bx 6) 0 [] (.agg [(.int .i64 r_5.1), (encO (.at 26 [1]) (r_5.2 : NL (Int × Int)))]))), (7, (encO (.at 7 [0]) (r_6.1 : NL Int))), (8, (.bool r_6.2))] ⟨(hg_4 1 (.ref (.bx 1) 0 [] (.agg [(.int .i64 aG_1.1), (Enc.enc (aG_1.2 : List (Int × Int)))])) (.ref (.bx 1) 0 [] (.agg [(.int .i64 aG_1.1), (Enc.enc (aG_1.2 : List (Int × Int)))])) (keep_clear (s := s) (pk := [29]) h1 rfl (map_bx rfl (map_agg (maps_cons rfl (maps_cons (Enc.map_enc _ (aG_1.2 : List (Int × Int))) maps_nil))))) (map_bx rfl (map_agg (maps_cons rfl (maps_cons (Enc.map_enc _ (aG_1.2 : List (Int × Int))) maps_nil))))), (hg_4 2 (.bool false) (.bool false) (keep_clear (s := s) (pk := [29]) h2 rfl rfl) rfl), (hg_4 4 (Enc.enc (r_4.1 : List Int)) (Enc.enc (r_4.1 : List Int)) (keep_clear (s := s) (pk := [29]) h4 rfl (Enc.map_enc _ (r_4.1 : List Int))) (Enc.map_enc _ (r_4.1 : List Int))), (hg_4 5 (.bool r_4.2) (.bool r_4.2) (keep_clear (s := s) (pk := [29]) h5 rfl rfl) rfl), (hg_4 6 (.ref (.bx 6) 0 [] (.agg [(.int .i64 r_5.1), (encO (.at 26 [1]) (r_5.2 : NL (Int × Int)))])) (.ref (.bx 6) 0 [] (.agg [(.int .i64 r_5.1), (encO (.at 26 [1]) (r_5.2 : NL (Int × Int)))])) (keep_clear (s := s) (pk := [29]) h6 rfl (map_bx rfl (map_agg (maps_cons rfl (maps_cons (map_encO (r := 26) (p := [1]) rfl rfl) maps_nil))))) (map_bx rfl (map_agg (maps_cons rfl (maps_cons (map_encO (r := 26) (p := [1]) rfl rfl) maps_nil))))), (hg_4 7 (encO (.at 29 [0]) (r_6.1 : NL Int)) (encO (.at 7 [0]) (r_6.1 : NL Int)) rfl (map_encO (r := 29) (p := [0]) rfl rfl)), (hg_4 8 (.bool r_6.2) (.bool r_6.2) rfl rfl)⟩ ?_
    rintro s ⟨h1, h2, h4, h5, h6, h7, h8⟩
    refine .nsq ?_
    refine .seq ?_
    refine .seq ?_
    refine run_reg ?_
    refine e_end ?_
    refine g_v (encO (.at 7 [0]) (r_6.1 : NL Int)) (ev_mov h7 ok_encO) ?_
    refine g_v1 (t := 4) (u := (Enc.enc (r_4.1 : List Int))) (Enc.enc (r_4.1 : List Int)) h4 rfl rfl ?_
    obtain ⟨r_24, E_r_24, h⟩ := bind_some h
    refine g_call (m := 0) (al := false) (r := (Enc.enc (r_24 : Bool))) [Enc.enc (r_6.1.list : (List Int)), Enc.enc (r_4.1 : (List Int))] (ta_cons (v := (encO (.at 7 [0]) (r_6.1 : NL Int))) rfl ok_encP (erase_encO (o := r_6.1)) (ta_cons (v := (Enc.enc (r_4.1 : List Int))) rfl rfl (Enc.erase_enc (r_4.1 : (List Int))) ta_nil)) (H.c19 _ _ _ E_r_24) H.g19 rfl rfl rfl rfl ?_
    refine g_v1 (t := 34) (u := (.bool r_24)) (.bool (!r_24)) rfl rfl rfl ?_
    refine g_v1 (t := 35) (u := (.bool (!r_24))) (.bool (!r_24)) rfl rfl rfl ?_
    refine split_on (c := (!r_24)) h (fun hg5 h => ?_) (fun hg5 h => ?_)
    · refine g_no (Eq.trans (b := .bool (!r_24)) rfl (congrArg V.bool hg5)) ?_
      refine g_no (Eq.trans (b := .bool (!r_24)) rfl (congrArg V.bool hg5)) ?_
      refine g_no (Eq.trans (b := .bool (!r_24)) rfl (congrArg V.bool hg5)) ?_
      refine g_v2 (t1 := 36) (t2 := 39) (u1 := (.bool true)) (u2 := (.tup [])) (.bool true) (Eq.trans (b := .bool (!r_24)) rfl (congrArg V.bool hg5)) rfl rfl rfl ?_
      refine g_end ?_
      refine e_end ?_
      refine renew [(1, (.ref (.bx 1) 0 [] (.agg [(.int .i64 aG_1.1), (Enc.enc (aG_1.2 : List (Int × Int)))]))), (2, (.bool false)), (4, (Enc.enc (r_4.1 : List Int))), (5, (.bool r_4.2)), (6, (.ref (.bx 6) 0 [] (.agg [(.int .i64 r_5.1), (encO (.at 26 [1]) (r_5.2 : NL (Int × Int)))]))), (7, (encO (.at 7 [0]) (r_6.1 : NL Int))), (8, (.bool r_6.2)), (40, (.bool true))] ⟨h1, h2, h4, h5, h6, h7, h8, rfl⟩ ?_
      rintro s ⟨h1, h2, h4, h5, h6, h7, h8, h40⟩
      exact t_f3_j3 H aG_1 r_4 r_5 r_6 true _ ⟨h1, h2, h4, h5, h6, h7, h8, h40⟩ h
    · refine g_yes (Eq.trans (b := .bool (!r_24)) rfl (congrArg V.bool hg5)) (g_v1 (t := 8) (u := (.bool r_6.2)) (.bool r_6.2) h8 rfl rfl ?_)
      refine g_yes (Eq.trans (b := .bool (!r_24)) rfl (congrArg V.bool hg5)) (g_v1 (t := 5) (u := (.bool r_4.2)) (.bool r_4.2) h5 rfl rfl ?_)
      refine g_yes (Eq.trans (b := .bool (!r_24)) rfl (congrArg V.bool hg5)) (g_v2 (t1 := 37) (t2 := 38) (u1 := (.bool r_6.2)) (u2 := (.bool r_4.2)) (.bool (r_6.2 != r_4.2)) rfl rfl rfl rfl ?_)
      refine g_v2 (t1 := 36) (t2 := 39) (u1 := (.bool false)) (u2 := (.bool (r_6.2 != r_4.2))) (.bool (r_6.2 != r_4.2)) (Eq.trans (b := .bool (!r_24)) rfl (congrArg V.bool hg5)) rfl rfl rfl ?_
      refine g_end ?_
      refine e_end ?_
      refine renew [(1, (.ref (.bx 1) 0 [] (.agg [(.int .i64 aG_1.1), (Enc.enc (aG_1.2 : List (Int × Int)))]))), (2, (.bool false)), (4, (Enc.enc (r_4.1 : List Int))), (5, (.bool r_4.2)), (6, (.ref (.bx 6) 0 [] (.agg [(.int .i64 r_5.1), (encO (.at 26 [1]) (r_5.2 : NL (Int × Int)))]))), (7, (encO (.at 7 [0]) (r_6.1 : NL Int))), (8, (.bool r_6.2)), (40, (.bool (r_6.2 != r_4.2)))] ⟨h1, h2, h4, h5, h6, h7, h8, rfl⟩ ?_
      rintro s ⟨h1, h2, h4, h5, h6, h7, h8, h40⟩
      exact t_f3_j3 H aG_1 r_4 r_5 r_6 (r_6.2 != r_4.2) _ ⟨h1, h2, h4, h5, h6, h7, h8, h40⟩ h
end
def e3 (F : Nat) : Ent := ⟨3, da (fun (x : ((Int × (List (Int × Int))) × Unit)) => w_FnExactLongestPath F x.1) (fun (r : Bool) => (Enc.enc (r : Bool))), 0, false, selF []⟩
theorem p3 {F : Nat} {x0 : (Int × (List (Int × Int)))} {r : Bool} (h : w_FnExactLongestPath F x0 = some r) : (e3 F).den [Enc.enc x0] = some (Enc.enc (r : Bool)) := da_put (f := fun (x : ((Int × (List (Int × Int))) × Unit)) => w_FnExactLongestPath F x.1) (t := fun (r : Bool) => (Enc.enc (r : Bool))) (x0, ()) h
theorem o3 {D : Den} {σ : Sig} {F : Nat} (hF : Fits2 Try.prog D σ) (H : H3 D σ F) : (e3 F).Ok Try.prog := by
  refine ok_of (f := 3) (show unk 3 = 3 from rfl) (fun args r h => ?_) ⟨Try.f3, Try.func3, rfl, rfl⟩
  obtain ⟨⟨x0, _⟩, y, rfl, hy, rfl⟩ := da_open h
  exact contract_run hF (by kernel_rfl) Try.func3 rfl c3 (show 1 ≤ Try.f3.ntmps by decide) (t3 H x0 _ rfl hy)
end Go.Zq
