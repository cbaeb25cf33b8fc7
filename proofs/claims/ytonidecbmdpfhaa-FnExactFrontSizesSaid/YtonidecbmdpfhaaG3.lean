/- Functions of the program as typed functions, and that the machine runs as they say (part 3). No further condition. -/
import Derived.Test.YtonidecbmdpfhaaK3
import Derived.Test.YtonidecbmdpfhaaProg
import Derived.Test.YtonidecbmdpfhaaChecked
import Derived.KernelRfl
import Derived.Test.YtonidecbmdpfhaaG2
set_option linter.unusedVariables false
set_option linter.unusedSimpArgs false
/- Functions of the program, as typed functions, and that the machine runs as they say. -/
namespace Go.Zq
open Go.Proofs
/- loop.example/g01109/laws.eqIntA2 -/
def A103_2 : AC := (AC.cond (O.t 7) AC.skip (AC.exit 0))
def A103_4 : AC := (AC.cond (O.t 16) (AC.seq (AC.reg [] [(I.mk (some 4) none false (X.v (A.mov (O.k (V.bool false)))))] []) AC.ret) AC.skip)
def A103_5 : AC := (AC.reg [] [(I.mk (some 8) none false (X.v (A.mov (O.t 5)))), (I.mk (some 9) none false (X.v (A.bin BinOp.add (O.t 8) (O.k (V.int IntKind.i64 (Int.ofNat 1)))))), (I.mk (some 5) none false (X.v (A.mov (O.t 9))))] [])
def A103_3 : AC := (AC.seq (AC.block 1 (AC.seq (AC.reg [] [(I.mk (some 10) none false (X.v (A.mov (O.t 5)))), (I.mk (some 11) none false (X.v (A.idxA (O.t 2) (O.t 10) 2 1))), (I.mk (some 12) none false (X.v (A.load Sh.s (O.t 11)))), (I.mk (some 13) none false (X.v (A.mov (O.t 5)))), (I.mk (some 14) none false (X.v (A.idxA (O.t 3) (O.t 13) 2 1))), (I.mk (some 15) none false (X.v (A.load Sh.s (O.t 14)))), (I.mk (some 16) none false (X.v (A.bin BinOp.neq (O.t 12) (O.t 15))))] []) A103_4)) A103_5)
def A103_1 : AC := (AC.seq (AC.seq (AC.reg [] [(I.mk (some 6) none false (X.v (A.mov (O.t 5)))), (I.mk (some 7) none false (X.v (A.bin BinOp.lss (O.t 6) (O.k (V.int IntKind.i64 (Int.ofNat 2))))))] []) A103_2) A103_3)
def A103_6 : AC := (AC.seq (AC.reg [] [(I.mk (some 4) none false (X.v (A.mov (O.k (V.bool true)))))] []) AC.ret)
def A103_8 : AC := (AC.block 0 (AC.loop A103_1))
def A103_7 : AC := (AC.seq (AC.seq (AC.reg [] [(I.mk (some 5) none false (X.v (A.mov (O.k (V.int IntKind.i64 (Int.ofNat 0))))))] []) A103_8) A103_6)
def A103 : AC := (AC.seq (AC.reg [.clr [2, 3]] [(I.mk (some 2) none false (X.box (O.t 0))), (I.mk (some 3) none false (X.box (O.t 1))), (I.mk (some 4) none false (X.v (A.mov (O.k (V.bool false)))))] []) A103_7)
def an103 : List An := [{ id := 0, pre := [.clr [2, 3]], ep := [], lin := [], sp := [] }]
theorem c103 : cC Try.prog Try.f103.ntmps an103 (Try.f103.body.getD .skip) = some A103 := by kernel_rfl
structure H103 (D : Den) (σ : Sig) (F : Nat) : Prop where
  mk ::
abbrev R103 (r : Bool) : (Nat → V) → Prop := RR Try.prog [.tmp 4] 0 false (Enc.enc (r : Bool))
section
variable {D : Den} {σ : Sig} {F : Nat} {r : Bool}
def w_eqIntA2_l1 (F : Nat) (a_1 : (Int × Int)) (b_2 : (Int × Int))  : Nat → Int → Option Bool
  | 0, _ => none
  | k + 1, i_3 =>
    bif decide (i_3 < 2) then
      (idx [a_1.1, a_1.2] i_3).bind fun e_6 =>
      (idx [b_2.1, b_2.2] i_3).bind fun e_7 =>
      bif (e_6 != e_7) then
        some false
      else
        (w_eqIntA2_l1 F a_1 b_2 k) (w64 (i_3 + 1))
    else
      some true
theorem t_f103_l1 (H : H103 D σ F) (a_1 : (Int × Int)) (b_2 : (Int × Int))  : ∀ (k : Nat) (i_3 : Int) (s : Nat → V), Facts [(2, (.ref (.bx 2) 0 [] (.agg [(.int .i64 a_1.1), (.int .i64 a_1.2)]))), (3, (.ref (.bx 3) 0 [] (.agg [(.int .i64 b_2.1), (.int .i64 b_2.2)]))), (4, (.bool false)), (5, (.int .i64 i_3))] s → w_eqIntA2_l1 F a_1 b_2 k i_3 = some r → Run D σ (R103 r) (.run A103_1 [.lp A103_1, .bk 0, .sq A103_6]) s := by
  intro k
  induction k with
  | zero => intro i_3 s _ h; exact nomatch (h : (none : Option _) = some r)
  | succ k ih =>
    intro i_3 s hs h
    rw [w_eqIntA2_l1] at h
    obtain ⟨h2, h3, h4, h5⟩ := hs
    refine .seq ?_
    refine .seq ?_
    refine run_reg ?_
    refine e_end ?_
    refine g_v1 (t := 5) (u := (.int .i64 i_3)) (.int .i64 i_3) h5 rfl rfl ?_
    refine g_v1 (t := 6) (u := (.int .i64 i_3)) (.bool (decide (i_3 < 2))) rfl rfl rfl ?_
    refine g_end ?_
    refine e_end ?_
    refine renew [(2, (.ref (.bx 2) 0 [] (.agg [(.int .i64 a_1.1), (.int .i64 a_1.2)]))), (3, (.ref (.bx 3) 0 [] (.agg [(.int .i64 b_2.1), (.int .i64 b_2.2)]))), (4, (.bool false)), (5, (.int .i64 i_3)), (7, (.bool (decide (i_3 < 2))))] ⟨h2, h3, h4, h5, rfl⟩ ?_
    rintro s ⟨h2, h3, h4, h5, h7⟩
    refine .nsq ?_
    refine run_cond (t := decide (i_3 < 2)) h7 h (fun h => ?_) (fun h => ?_)
    · refine .skip ?_
      refine .nsq ?_
      refine .seq ?_
      refine .block ?_
      refine .seq ?_
      refine run_reg ?_
      refine e_end ?_
      refine g_v1 (t := 5) (u := (.int .i64 i_3)) (.int .i64 i_3) h5 rfl rfl ?_
      obtain ⟨e_6, E_e_6, h⟩ := bind_some h
      refine g_v (.ref (.bx 2) 0 [i_3.toNat] (.int .i64 e_6)) (ev_idxA (xs := [a_1.1, a_1.2]) (a := e_6) (n := i_3) (q := []) h2 rfl E_e_6 rfl rfl rfl) ?_
      refine g_v1 (t := 11) (u := (.ref (.bx 2) 0 [i_3.toNat] (.int .i64 e_6))) (.int .i64 e_6) rfl rfl rfl ?_
      refine g_v1 (t := 5) (u := (.int .i64 i_3)) (.int .i64 i_3) h5 rfl rfl ?_
      obtain ⟨e_7, E_e_7, h⟩ := bind_some h
      refine g_v (.ref (.bx 3) 0 [i_3.toNat] (.int .i64 e_7)) (ev_idxA (xs := [b_2.1, b_2.2]) (a := e_7) (n := i_3) (q := []) h3 rfl E_e_7 rfl rfl rfl) ?_
      refine g_v1 (t := 14) (u := (.ref (.bx 3) 0 [i_3.toNat] (.int .i64 e_7))) (.int .i64 e_7) rfl rfl rfl ?_
      refine g_v2 (t1 := 12) (t2 := 15) (u1 := (.int .i64 e_6)) (u2 := (.int .i64 e_7)) (.bool (e_6 != e_7)) rfl rfl rfl rfl ?_
      refine g_end ?_
      refine e_end ?_
      refine renew [(2, (.ref (.bx 2) 0 [] (.agg [(.int .i64 a_1.1), (.int .i64 a_1.2)]))), (3, (.ref (.bx 3) 0 [] (.agg [(.int .i64 b_2.1), (.int .i64 b_2.2)]))), (4, (.bool false)), (5, (.int .i64 i_3)), (16, (.bool (e_6 != e_7)))] ⟨h2, h3, h4, h5, rfl⟩ ?_
      rintro s ⟨h2, h3, h4, h5, h16⟩
      refine .nsq ?_
      refine run_cond (t := (e_6 != e_7)) h16 h (fun h => ?_) (fun h => ?_)
      · refine .seq ?_
        refine run_reg ?_
        refine e_end ?_
        refine g_v0 (.bool false) rfl rfl ?_
        refine g_end ?_
        refine e_end ?_
        refine renew [(2, (.ref (.bx 2) 0 [] (.agg [(.int .i64 a_1.1), (.int .i64 a_1.2)]))), (3, (.ref (.bx 3) 0 [] (.agg [(.int .i64 b_2.1), (.int .i64 b_2.2)]))), (4, (.bool false)), (5, (.int .i64 i_3))] ⟨h2, h3, rfl, h5⟩ ?_
        rintro s ⟨h2, h3, h4, h5⟩
        refine .nsq ?_
        refine .ret ?_
        have hr := Option.some.inj h
        subst hr
        exact rrA (res_tmp h4) rfl
      · refine .skip ?_
        refine .nbk ?_
        refine .nsq ?_
        refine run_reg ?_
        refine e_end ?_
        refine g_v1 (t := 5) (u := (.int .i64 i_3)) (.int .i64 i_3) h5 rfl rfl ?_
        refine g_v1 (t := 8) (u := (.int .i64 i_3)) (.int .i64 (w64 (i_3 + 1))) rfl rfl rfl ?_
        refine g_v1 (t := 9) (u := (.int .i64 (w64 (i_3 + 1)))) (.int .i64 (w64 (i_3 + 1))) rfl rfl rfl ?_
        refine g_end ?_
        refine e_end ?_
        refine renew [(2, (.ref (.bx 2) 0 [] (.agg [(.int .i64 a_1.1), (.int .i64 a_1.2)]))), (3, (.ref (.bx 3) 0 [] (.agg [(.int .i64 b_2.1), (.int .i64 b_2.2)]))), (4, (.bool false)), (5, (.int .i64 (w64 (i_3 + 1))))] ⟨h2, h3, h4, rfl⟩ ?_
        rintro s ⟨h2, h3, h4, h5⟩
        refine .nlp ?_
        exact ih (w64 (i_3 + 1)) _ ⟨h2, h3, h4, h5⟩ h
    · refine .exit ?_
      refine .esq ?_
      refine .elp ?_
      refine .ebk ?_
      refine .nsq ?_
      refine .seq ?_
      refine run_reg ?_
      refine e_end ?_
      refine g_v0 (.bool true) rfl rfl ?_
      refine g_end ?_
      refine e_end ?_
      refine renew [(4, (.bool true))] rfl ?_
      rintro s h4
      refine .nsq ?_
      refine .ret ?_
      have hr := Option.some.inj h
      subst hr
      exact rrA (res_tmp h4) rfl
def w_eqIntA2 (F : Nat) (a_1 : (Int × Int)) (b_2 : (Int × Int)) : Option Bool :=
  w_eqIntA2_l1 F a_1 b_2 F 0
theorem t103 (H : H103 D σ F) (a_1 : (Int × Int)) (b_2 : (Int × Int)) (s : Nat → V) (hs : Facts [(0, (.agg [(.int .i64 a_1.1), (.int .i64 a_1.2)])), (1, (.agg [(.int .i64 b_2.1), (.int .i64 b_2.2)]))] s) (h : w_eqIntA2 F a_1 b_2 = some r) : Run D σ (R103 r) (.run A103 []) s := by
  unfold w_eqIntA2 at h
  obtain ⟨h0, h1⟩ := hs
  refine .seq ?_
  refine run_reg ?_
  refine e_clr ?_
  refine e_end ?_
  refine g_box (.agg [(.int .i64 a_1.1), (.int .i64 a_1.2)]) (rd_of (keep_clear (s := s) (pk := [2, 3]) h0 rfl (map_agg (maps_cons rfl (maps_cons rfl maps_nil)))) rfl) (gone_clear (s := s) (pk := [2, 3]) (t := 2) rfl) rfl ?_
  refine g_box (.agg [(.int .i64 b_2.1), (.int .i64 b_2.2)]) (rd_of (keep_clear (s := s) (pk := [2, 3]) h1 rfl (map_agg (maps_cons rfl (maps_cons rfl maps_nil)))) rfl) (gone_clear (s := s) (pk := [2, 3]) (t := 3) rfl) rfl ?_
  refine g_v0 (.bool false) rfl rfl ?_
  refine g_end ?_
  refine e_end ?_
  refine renew [(2, (.ref (.bx 2) 0 [] (.agg [(.int .i64 a_1.1), (.int .i64 a_1.2)]))), (3, (.ref (.bx 3) 0 [] (.agg [(.int .i64 b_2.1), (.int .i64 b_2.2)]))), (4, (.bool false))] ⟨rfl, rfl, rfl⟩ ?_
  rintro s ⟨h2, h3, h4⟩
  refine .nsq ?_
  refine .seq ?_
  refine .seq ?_
  refine run_reg ?_
  refine e_end ?_
  refine g_v0 (.int .i64 0) rfl rfl ?_
  refine g_end ?_
  refine e_end ?_
  refine renew [(2, (.ref (.bx 2) 0 [] (.agg [(.int .i64 a_1.1), (.int .i64 a_1.2)]))), (3, (.ref (.bx 3) 0 [] (.agg [(.int .i64 b_2.1), (.int .i64 b_2.2)]))), (4, (.bool false)), (5, (.int .i64 0))] ⟨h2, h3, h4, rfl⟩ ?_
  rintro s ⟨h2, h3, h4, h5⟩
  refine .nsq ?_
  refine .block ?_
  refine .loop ?_
  exact t_f103_l1 H a_1 b_2 F 0 _ ⟨h2, h3, h4, h5⟩ h
end
def e103 (F : Nat) : Ent := ⟨103, da (fun (x : ((Int × Int) × (Int × Int) × Unit)) => w_eqIntA2 F x.1 x.2.1) (fun (r : Bool) => (Enc.enc (r : Bool))), 0, false, selF []⟩
theorem p103 {F : Nat} {x0 : (Int × Int)} {x1 : (Int × Int)} {r : Bool} (h : w_eqIntA2 F x0 x1 = some r) : (e103 F).den [Enc.enc x0, Enc.enc x1] = some (Enc.enc (r : Bool)) := da_put (f := fun (x : ((Int × Int) × (Int × Int) × Unit)) => w_eqIntA2 F x.1 x.2.1) (t := fun (r : Bool) => (Enc.enc (r : Bool))) (x0, x1, ()) h
theorem o103 {D : Den} {σ : Sig} {F : Nat} (hF : Fits2 Try.prog D σ) (H : H103 D σ F) : (e103 F).Ok Try.prog := by
  refine ok_of (f := 103) (show unk 103 = 103 from rfl) (fun args r h => ?_) ⟨Try.f103, Try.func103, rfl, rfl⟩
  obtain ⟨⟨x0, x1, _⟩, y, rfl, hy, rfl⟩ := da_open h
  exact contract_run hF (by kernel_rfl) Try.func103 rfl c103 (show 2 ≤ Try.f103.ntmps by decide) (t103 H x0 x1 _ ⟨rfl, rfl⟩ hy)
/- loop.example/g01109/laws.eqIntA2S -/
def A54_2 : AC := (AC.cond (O.t 14) AC.skip (AC.exit 0))
def A54_4 : AC := (AC.cond (O.t 26) (AC.seq (AC.reg [] [(I.mk (some 4) none false (X.v (A.mov (O.k (V.bool false)))))] []) AC.ret) AC.skip)
def A54_5 : AC := (AC.reg [] [(I.mk (some 15) none false (X.v (A.mov (O.t 5)))), (I.mk (some 16) none false (X.v (A.bin BinOp.add (O.t 15) (O.k (V.int IntKind.i64 (Int.ofNat 1)))))), (I.mk (some 5) none false (X.v (A.mov (O.t 16))))] [])
def A54_3 : AC := (AC.seq (AC.block 1 (AC.seq (AC.reg [] [(I.mk (some 17) none false (X.v (A.mov (O.t 0)))), (I.mk (some 18) none false (X.v (A.mov (O.t 5)))), (I.mk (some 19) none false (X.v (A.idx (O.t 17) (O.t 18) 2))), (I.mk (some 20) none false (X.v (A.load (Sh.ag [Sh.s, Sh.s]) (O.t 19)))), (I.mk (some 21) none false (X.v (A.mov (O.t 1)))), (I.mk (some 22) none false (X.v (A.mov (O.t 5)))), (I.mk (some 23) none false (X.v (A.idx (O.t 21) (O.t 22) 2))), (I.mk (some 24) none false (X.v (A.load (Sh.ag [Sh.s, Sh.s]) (O.t 23)))), (I.mk (some 25) none false (X.call (O.k (V.fn 103 [] [])) [(O.t 20), (O.t 24)])), (I.mk (some 26) none false (X.v (A.un UnOp.not (O.t 25))))] []) A54_4)) A54_5)
def A54_1 : AC := (AC.seq (AC.seq (AC.reg [] [(I.mk (some 11) none false (X.v (A.mov (O.t 5)))), (I.mk (some 12) none false (X.v (A.mov (O.t 0)))), (I.mk (some 13) none false (X.v (A.len (O.t 12)))), (I.mk (some 14) none false (X.v (A.bin BinOp.lss (O.t 11) (O.t 13))))] []) A54_2) A54_3)
def A54_6 : AC := (AC.seq (AC.reg [] [(I.mk (some 4) none false (X.v (A.mov (O.k (V.bool true)))))] []) AC.ret)
def A54_8 : AC := (AC.cond (O.t 10) (AC.seq (AC.reg [] [(I.mk (some 4) none false (X.v (A.mov (O.k (V.bool false)))))] []) AC.ret) AC.skip)
def A54_10 : AC := (AC.block 0 (AC.loop A54_1))
def A54_9 : AC := (AC.seq (AC.seq (AC.reg [] [(I.mk (some 5) none false (X.v (A.mov (O.k (V.int IntKind.i64 (Int.ofNat 0))))))] []) A54_10) A54_6)
def A54_7 : AC := (AC.seq (AC.seq (AC.reg [] [(I.mk (some 6) none false (X.v (A.mov (O.t 0)))), (I.mk (some 7) none false (X.v (A.len (O.t 6)))), (I.mk (some 8) none false (X.v (A.mov (O.t 1)))), (I.mk (some 9) none false (X.v (A.len (O.t 8)))), (I.mk (some 10) none false (X.v (A.bin BinOp.neq (O.t 7) (O.t 9))))] []) A54_8) A54_9)
def A54 : AC := (AC.seq (AC.reg [] [(I.mk (some 4) none false (X.v (A.mov (O.k (V.bool false)))))] []) A54_7)
def an54 : List An := []
theorem c54 : cC Try.prog Try.f54.ntmps an54 (Try.f54.body.getD .skip) = some A54 := by kernel_rfl
structure H54 (D : Den) (σ : Sig) (F : Nat) : Prop where
  c103 : ∀ (x0 : (Int × Int)) (x1 : (Int × Int)) r, w_eqIntA2 F x0 x1 = some r → D 103 [Enc.enc x0, Enc.enc x1] = some (Enc.enc (r : Bool))
  g103 : σ 103 = some (0, false)
abbrev R54 (r : Bool) : (Nat → V) → Prop := RR Try.prog [.tmp 4] 0 false (Enc.enc (r : Bool))
section
variable {D : Den} {σ : Sig} {F : Nat} {r : Bool}
def w_eqIntA2S_l1 (F : Nat) (a_1 : (List (Int × Int))) (b_2 : (List (Int × Int)))  : Nat → Int → Option Bool
  | 0, _ => none
  | k + 1, i_6 =>
    bif decide (i_6 < (a_1.length : Int)) then
      (idx a_1 i_6).bind fun e_10 =>
      (idx b_2 i_6).bind fun e_11 =>
      (w_eqIntA2 F e_10 e_11).bind fun r_12 =>
      bif (!r_12) then
        some false
      else
        (w_eqIntA2S_l1 F a_1 b_2 k) (w64 (i_6 + 1))
    else
      some true
theorem t_f54_l1 (H : H54 D σ F) (a_1 : (List (Int × Int))) (b_2 : (List (Int × Int)))  : ∀ (k : Nat) (i_6 : Int) (s : Nat → V), Facts [(0, (Enc.enc (a_1 : List (Int × Int)))), (1, (Enc.enc (b_2 : List (Int × Int)))), (4, (.bool false)), (5, (.int .i64 i_6))] s → w_eqIntA2S_l1 F a_1 b_2 k i_6 = some r → Run D σ (R54 r) (.run A54_1 [.lp A54_1, .bk 0, .sq A54_6]) s := by
  intro k
  induction k with
  | zero => intro i_6 s _ h; exact nomatch (h : (none : Option _) = some r)
  | succ k ih =>
    intro i_6 s hs h
    rw [w_eqIntA2S_l1] at h
    obtain ⟨h0, h1, h4, h5⟩ := hs
    refine .seq ?_
    refine .seq ?_
    refine run_reg ?_
    refine e_end ?_
    refine g_v1 (t := 5) (u := (.int .i64 i_6)) (.int .i64 i_6) h5 rfl rfl ?_
    refine g_v1 (t := 0) (u := (Enc.enc (a_1 : List (Int × Int)))) (Enc.enc (a_1 : List (Int × Int))) h0 rfl rfl ?_
    refine g_v (.int .i64 (a_1.length : Int)) (ev_len (xs := a_1) rfl) ?_
    refine g_v2 (t1 := 11) (t2 := 13) (u1 := (.int .i64 i_6)) (u2 := (.int .i64 (a_1.length : Int))) (.bool (decide (i_6 < (a_1.length : Int)))) rfl rfl rfl rfl ?_
    refine g_end ?_
    refine e_end ?_
    refine renew [(0, (Enc.enc (a_1 : List (Int × Int)))), (1, (Enc.enc (b_2 : List (Int × Int)))), (4, (.bool false)), (5, (.int .i64 i_6)), (14, (.bool (decide (i_6 < (a_1.length : Int)))))] ⟨h0, h1, h4, h5, rfl⟩ ?_
    rintro s ⟨h0, h1, h4, h5, h14⟩
    refine .nsq ?_
    refine run_cond (t := decide (i_6 < (a_1.length : Int))) h14 h (fun h => ?_) (fun h => ?_)
    · refine .skip ?_
      refine .nsq ?_
      refine .seq ?_
      refine .block ?_
      refine .seq ?_
      refine run_reg ?_
      refine e_end ?_
      refine g_v1 (t := 0) (u := (Enc.enc (a_1 : List (Int × Int)))) (Enc.enc (a_1 : List (Int × Int))) h0 rfl rfl ?_
      refine g_v1 (t := 5) (u := (.int .i64 i_6)) (.int .i64 i_6) h5 rfl rfl ?_
      obtain ⟨e_10, E_e_10, h⟩ := bind_some h
      refine g_v (.ref .sh 0 [] (.agg [(.int .i64 e_10.1), (.int .i64 e_10.2)])) (ev_idx (t := .sh) (lo := 0) (xs := a_1) rfl rfl E_e_10 rfl rfl) ?_
      refine g_v1 (t := 19) (u := (.ref .sh 0 [] (.agg [(.int .i64 e_10.1), (.int .i64 e_10.2)]))) (.agg [(.int .i64 e_10.1), (.int .i64 e_10.2)]) rfl rfl rfl ?_
      refine g_v1 (t := 1) (u := (Enc.enc (b_2 : List (Int × Int)))) (Enc.enc (b_2 : List (Int × Int))) h1 rfl rfl ?_
      refine g_v1 (t := 5) (u := (.int .i64 i_6)) (.int .i64 i_6) h5 rfl rfl ?_
      obtain ⟨e_11, E_e_11, h⟩ := bind_some h
      refine g_v (.ref .sh 0 [] (.agg [(.int .i64 e_11.1), (.int .i64 e_11.2)])) (ev_idx (t := .sh) (lo := 0) (xs := b_2) rfl rfl E_e_11 rfl rfl) ?_
      refine g_v1 (t := 23) (u := (.ref .sh 0 [] (.agg [(.int .i64 e_11.1), (.int .i64 e_11.2)]))) (.agg [(.int .i64 e_11.1), (.int .i64 e_11.2)]) rfl rfl rfl ?_
      obtain ⟨r_12, E_r_12, h⟩ := bind_some h
      refine g_call (m := 0) (al := false) (r := (Enc.enc (r_12 : Bool))) [Enc.enc (e_10 : (Int × Int)), Enc.enc (e_11 : (Int × Int))] (ta_cons (v := (.agg [(.int .i64 e_10.1), (.int .i64 e_10.2)])) rfl rfl (Enc.erase_enc (e_10 : (Int × Int))) (ta_cons (v := (.agg [(.int .i64 e_11.1), (.int .i64 e_11.2)])) rfl rfl (Enc.erase_enc (e_11 : (Int × Int))) ta_nil)) (H.c103 _ _ _ E_r_12) H.g103 rfl rfl rfl rfl ?_
      refine g_v1 (t := 25) (u := (.bool r_12)) (.bool (!r_12)) rfl rfl rfl ?_
      refine g_end ?_
      refine e_end ?_
      refine renew [(0, (Enc.enc (a_1 : List (Int × Int)))), (1, (Enc.enc (b_2 : List (Int × Int)))), (4, (.bool false)), (5, (.int .i64 i_6)), (26, (.bool (!r_12)))] ⟨h0, h1, h4, h5, rfl⟩ ?_
      rintro s ⟨h0, h1, h4, h5, h26⟩
      refine .nsq ?_
      refine run_cond (t := (!r_12)) h26 h (fun h => ?_) (fun h => ?_)
      · refine .seq ?_
        refine run_reg ?_
        refine e_end ?_
        refine g_v0 (.bool false) rfl rfl ?_
        refine g_end ?_
        refine e_end ?_
        refine renew [(0, (Enc.enc (a_1 : List (Int × Int)))), (1, (Enc.enc (b_2 : List (Int × Int)))), (4, (.bool false)), (5, (.int .i64 i_6))] ⟨h0, h1, rfl, h5⟩ ?_
        rintro s ⟨h0, h1, h4, h5⟩
        refine .nsq ?_
        refine .ret ?_
        have hr := Option.some.inj h
        subst hr
        exact rrA (res_tmp h4) rfl
      · refine .skip ?_
        refine .nbk ?_
        refine .nsq ?_
        refine run_reg ?_
        refine e_end ?_
        refine g_v1 (t := 5) (u := (.int .i64 i_6)) (.int .i64 i_6) h5 rfl rfl ?_
        refine g_v1 (t := 15) (u := (.int .i64 i_6)) (.int .i64 (w64 (i_6 + 1))) rfl rfl rfl ?_
        refine g_v1 (t := 16) (u := (.int .i64 (w64 (i_6 + 1)))) (.int .i64 (w64 (i_6 + 1))) rfl rfl rfl ?_
        refine g_end ?_
        refine e_end ?_
        refine renew [(0, (Enc.enc (a_1 : List (Int × Int)))), (1, (Enc.enc (b_2 : List (Int × Int)))), (4, (.bool false)), (5, (.int .i64 (w64 (i_6 + 1))))] ⟨h0, h1, h4, rfl⟩ ?_
        rintro s ⟨h0, h1, h4, h5⟩
        refine .nlp ?_
        exact ih (w64 (i_6 + 1)) _ ⟨h0, h1, h4, h5⟩ h
    · refine .exit ?_
      refine .esq ?_
      refine .elp ?_
      refine .ebk ?_
      refine .nsq ?_
      refine .seq ?_
      refine run_reg ?_
      refine e_end ?_
      refine g_v0 (.bool true) rfl rfl ?_
      refine g_end ?_
      refine e_end ?_
      refine renew [(4, (.bool true))] rfl ?_
      rintro s h4
      refine .nsq ?_
      refine .ret ?_
      have hr := Option.some.inj h
      subst hr
      exact rrA (res_tmp h4) rfl
def w_eqIntA2S (F : Nat) (a_1 : (List (Int × Int))) (b_2 : (List (Int × Int))) : Option Bool :=
  bif ((a_1.length : Int) != (b_2.length : Int)) then
    some false
  else
    w_eqIntA2S_l1 F a_1 b_2 F 0
theorem t54 (H : H54 D σ F) (a_1 : (List (Int × Int))) (b_2 : (List (Int × Int))) (s : Nat → V) (hs : Facts [(0, (Enc.enc (a_1 : List (Int × Int)))), (1, (Enc.enc (b_2 : List (Int × Int))))] s) (h : w_eqIntA2S F a_1 b_2 = some r) : Run D σ (R54 r) (.run A54 []) s := by
  unfold w_eqIntA2S at h
  obtain ⟨h0, h1⟩ := hs
  refine .seq ?_
  refine run_reg ?_
  refine e_end ?_
  refine g_v0 (.bool false) rfl rfl ?_
  refine g_end ?_
  refine e_end ?_
  refine renew [(0, (Enc.enc (a_1 : List (Int × Int)))), (1, (Enc.enc (b_2 : List (Int × Int)))), (4, (.bool false))] ⟨h0, h1, rfl⟩ ?_
  rintro s ⟨h0, h1, h4⟩
  refine .nsq ?_
  refine .seq ?_
  refine .seq ?_
  refine run_reg ?_
  refine e_end ?_
  refine g_v1 (t := 0) (u := (Enc.enc (a_1 : List (Int × Int)))) (Enc.enc (a_1 : List (Int × Int))) h0 rfl rfl ?_
  refine g_v (.int .i64 (a_1.length : Int)) (ev_len (xs := a_1) rfl) ?_
  refine g_v1 (t := 1) (u := (Enc.enc (b_2 : List (Int × Int)))) (Enc.enc (b_2 : List (Int × Int))) h1 rfl rfl ?_
  refine g_v (.int .i64 (b_2.length : Int)) (ev_len (xs := b_2) rfl) ?_
  refine g_v2 (t1 := 7) (t2 := 9) (u1 := (.int .i64 (a_1.length : Int))) (u2 := (.int .i64 (b_2.length : Int))) (.bool ((a_1.length : Int) != (b_2.length : Int))) rfl rfl rfl rfl ?_
  refine g_end ?_
  refine e_end ?_
  refine renew [(0, (Enc.enc (a_1 : List (Int × Int)))), (1, (Enc.enc (b_2 : List (Int × Int)))), (4, (.bool false)), (10, (.bool ((a_1.length : Int) != (b_2.length : Int))))] ⟨h0, h1, h4, rfl⟩ ?_
  rintro s ⟨h0, h1, h4, h10⟩
  refine .nsq ?_
  refine run_cond (t := ((a_1.length : Int) != (b_2.length : Int))) h10 h (fun h => ?_) (fun h => ?_)
  · refine .seq ?_
    refine run_reg ?_
    refine e_end ?_
    refine g_v0 (.bool false) rfl rfl ?_
    refine g_end ?_
    refine e_end ?_
    refine renew [(0, (Enc.enc (a_1 : List (Int × Int)))), (1, (Enc.enc (b_2 : List (Int × Int)))), (4, (.bool false))] ⟨h0, h1, rfl⟩ ?_
    rintro s ⟨h0, h1, h4⟩
    refine .nsq ?_
    refine .ret ?_
    have hr := Option.some.inj h
    subst hr
    exact rrA (res_tmp h4) rfl
  · refine .skip ?_
    refine .nsq ?_
    refine .seq ?_
    refine .seq ?_
    refine run_reg ?_
    refine e_end ?_
    refine g_v0 (.int .i64 0) rfl rfl ?_
    refine g_end ?_
    refine e_end ?_
    refine renew [(0, (Enc.enc (a_1 : List (Int × Int)))), (1, (Enc.enc (b_2 : List (Int × Int)))), (4, (.bool false)), (5, (.int .i64 0))] ⟨h0, h1, h4, rfl⟩ ?_
    rintro s ⟨h0, h1, h4, h5⟩
    refine .nsq ?_
    refine .block ?_
    refine .loop ?_
    exact t_f54_l1 H a_1 b_2 F 0 _ ⟨h0, h1, h4, h5⟩ h
end
def e54 (F : Nat) : Ent := ⟨54, da (fun (x : ((List (Int × Int)) × (List (Int × Int)) × Unit)) => w_eqIntA2S F x.1 x.2.1) (fun (r : Bool) => (Enc.enc (r : Bool))), 0, false, selF []⟩
theorem p54 {F : Nat} {x0 : (List (Int × Int))} {x1 : (List (Int × Int))} {r : Bool} (h : w_eqIntA2S F x0 x1 = some r) : (e54 F).den [Enc.enc x0, Enc.enc x1] = some (Enc.enc (r : Bool)) := da_put (f := fun (x : ((List (Int × Int)) × (List (Int × Int)) × Unit)) => w_eqIntA2S F x.1 x.2.1) (t := fun (r : Bool) => (Enc.enc (r : Bool))) (x0, x1, ()) h
theorem o54 {D : Den} {σ : Sig} {F : Nat} (hF : Fits2 Try.prog D σ) (H : H54 D σ F) : (e54 F).Ok Try.prog := by
  refine ok_of (f := 54) (show unk 54 = 54 from rfl) (fun args r h => ?_) ⟨Try.f54, Try.func54, rfl, rfl⟩
  obtain ⟨⟨x0, x1, _⟩, y, rfl, hy, rfl⟩ := da_open h
  exact contract_run hF (by kernel_rfl) Try.func54 rfl c54 (show 2 ≤ Try.f54.ntmps by decide) (t54 H x0 x1 _ ⟨rfl, rfl⟩ hy)
/- loop.example/g01109/laws.eqGraph -/
def A20_2 : AC := (AC.cond (O.t 9) (AC.seq (AC.reg [] [(I.mk (some 4) none false (X.v (A.mov (O.k (V.bool false)))))] []) AC.ret) AC.skip)
def A20_4 : AC := (AC.cond (O.t 15) (AC.seq (AC.reg [] [(I.mk (some 4) none false (X.v (A.mov (O.k (V.bool false)))))] []) AC.ret) AC.skip)
def A20_5 : AC := (AC.seq (AC.reg [] [(I.mk (some 4) none false (X.v (A.mov (O.k (V.bool true)))))] []) AC.ret)
def A20_3 : AC := (AC.seq (AC.seq (AC.reg [] [(I.mk (some 10) none false (X.v (A.fld (O.t 2) 1 1))), (I.mk (some 11) none false (X.v (A.load Sh.p (O.t 10)))), (I.mk (some 12) none false (X.v (A.fld (O.t 3) 1 1))), (I.mk (some 13) none false (X.v (A.load Sh.p (O.t 12)))), (I.mk (some 14) none false (X.call (O.k (V.fn 54 [] [])) [(O.t 11), (O.t 13)])), (I.mk (some 15) none false (X.v (A.un UnOp.not (O.t 14))))] []) A20_4) A20_5)
def A20_1 : AC := (AC.seq (AC.seq (AC.reg [] [(I.mk (some 5) none false (X.v (A.fld (O.t 2) 0 0))), (I.mk (some 6) none false (X.v (A.load Sh.s (O.t 5)))), (I.mk (some 7) none false (X.v (A.fld (O.t 3) 0 0))), (I.mk (some 8) none false (X.v (A.load Sh.s (O.t 7)))), (I.mk (some 9) none false (X.v (A.bin BinOp.neq (O.t 6) (O.t 8))))] []) A20_2) A20_3)
def A20 : AC := (AC.seq (AC.reg [.clr [2, 3]] [(I.mk (some 2) none false (X.box (O.t 0))), (I.mk (some 3) none false (X.box (O.t 1))), (I.mk (some 4) none false (X.v (A.mov (O.k (V.bool false)))))] []) A20_1)
def an20 : List An := [{ id := 0, pre := [.clr [2, 3]], ep := [], lin := [], sp := [] }]
theorem c20 : cC Try.prog Try.f20.ntmps an20 (Try.f20.body.getD .skip) = some A20 := by kernel_rfl
structure H20 (D : Den) (σ : Sig) (F : Nat) : Prop where
  c54 : ∀ (x0 : (List (Int × Int))) (x1 : (List (Int × Int))) r, w_eqIntA2S F x0 x1 = some r → D 54 [Enc.enc x0, Enc.enc x1] = some (Enc.enc (r : Bool))
  g54 : σ 54 = some (0, false)
abbrev R20 (r : Bool) : (Nat → V) → Prop := RR Try.prog [.tmp 4] 0 false (Enc.enc (r : Bool))
section
variable {D : Den} {σ : Sig} {F : Nat} {r : Bool}
def w_eqGraph (F : Nat) (a_1 : (Int × (List (Int × Int)))) (b_2 : (Int × (List (Int × Int)))) : Option Bool :=
  bif (a_1.1 != b_2.1) then
    some false
  else
    (w_eqIntA2S F a_1.2 b_2.2).bind fun r_3 =>
    bif (!r_3) then
      some false
    else
      some true
theorem t20 (H : H20 D σ F) (a_1 : (Int × (List (Int × Int)))) (b_2 : (Int × (List (Int × Int)))) (s : Nat → V) (hs : Facts [(0, (.agg [(.int .i64 a_1.1), (Enc.enc (a_1.2 : List (Int × Int)))])), (1, (.agg [(.int .i64 b_2.1), (Enc.enc (b_2.2 : List (Int × Int)))]))] s) (h : w_eqGraph F a_1 b_2 = some r) : Run D σ (R20 r) (.run A20 []) s := by
  unfold w_eqGraph at h
  obtain ⟨h0, h1⟩ := hs
  refine .seq ?_
  refine run_reg ?_
  refine e_clr ?_
  refine e_end ?_
  refine g_box (.agg [(.int .i64 a_1.1), (Enc.enc (a_1.2 : List (Int × Int)))]) (rd_of (keep_clear (s := s) (pk := [2, 3]) h0 rfl (map_agg (maps_cons rfl (maps_cons (Enc.map_enc _ (a_1.2 : List (Int × Int))) maps_nil)))) rfl) (gone_clear (s := s) (pk := [2, 3]) (t := 2) rfl) rfl ?_
  refine g_box (.agg [(.int .i64 b_2.1), (Enc.enc (b_2.2 : List (Int × Int)))]) (rd_of (keep_clear (s := s) (pk := [2, 3]) h1 rfl (map_agg (maps_cons rfl (maps_cons (Enc.map_enc _ (b_2.2 : List (Int × Int))) maps_nil)))) rfl) (gone_clear (s := s) (pk := [2, 3]) (t := 3) rfl) rfl ?_
  refine g_v0 (.bool false) rfl rfl ?_
  refine g_end ?_
  refine e_end ?_
  refine renew [(2, (.ref (.bx 2) 0 [] (.agg [(.int .i64 a_1.1), (Enc.enc (a_1.2 : List (Int × Int)))]))), (3, (.ref (.bx 3) 0 [] (.agg [(.int .i64 b_2.1), (Enc.enc (b_2.2 : List (Int × Int)))]))), (4, (.bool false))] ⟨rfl, rfl, rfl⟩ ?_
  rintro s ⟨h2, h3, h4⟩
  refine .nsq ?_
  refine .seq ?_
  refine .seq ?_
  refine run_reg ?_
  refine e_end ?_
  refine g_v1 (t := 2) (u := (.ref (.bx 2) 0 [] (.agg [(.int .i64 a_1.1), (Enc.enc (a_1.2 : List (Int × Int)))]))) (.ref (.bx 2) 0 [0] (.int .i64 a_1.1)) h2 rfl rfl ?_
  refine g_v1 (t := 5) (u := (.ref (.bx 2) 0 [0] (.int .i64 a_1.1))) (.int .i64 a_1.1) rfl rfl rfl ?_
  refine g_v1 (t := 3) (u := (.ref (.bx 3) 0 [] (.agg [(.int .i64 b_2.1), (Enc.enc (b_2.2 : List (Int × Int)))]))) (.ref (.bx 3) 0 [0] (.int .i64 b_2.1)) h3 rfl rfl ?_
  refine g_v1 (t := 7) (u := (.ref (.bx 3) 0 [0] (.int .i64 b_2.1))) (.int .i64 b_2.1) rfl rfl rfl ?_
  refine g_v2 (t1 := 6) (t2 := 8) (u1 := (.int .i64 a_1.1)) (u2 := (.int .i64 b_2.1)) (.bool (a_1.1 != b_2.1)) rfl rfl rfl rfl ?_
  refine g_end ?_
  refine e_end ?_
  refine renew [(2, (.ref (.bx 2) 0 [] (.agg [(.int .i64 a_1.1), (Enc.enc (a_1.2 : List (Int × Int)))]))), (3, (.ref (.bx 3) 0 [] (.agg [(.int .i64 b_2.1), (Enc.enc (b_2.2 : List (Int × Int)))]))), (4, (.bool false)), (9, (.bool (a_1.1 != b_2.1)))] ⟨h2, h3, h4, rfl⟩ ?_
  rintro s ⟨h2, h3, h4, h9⟩
  refine .nsq ?_
  refine run_cond (t := (a_1.1 != b_2.1)) h9 h (fun h => ?_) (fun h => ?_)
  · refine .seq ?_
    refine run_reg ?_
    refine e_end ?_
    refine g_v0 (.bool false) rfl rfl ?_
    refine g_end ?_
    refine e_end ?_
    refine renew [(2, (.ref (.bx 2) 0 [] (.agg [(.int .i64 a_1.1), (Enc.enc (a_1.2 : List (Int × Int)))]))), (3, (.ref (.bx 3) 0 [] (.agg [(.int .i64 b_2.1), (Enc.enc (b_2.2 : List (Int × Int)))]))), (4, (.bool false))] ⟨h2, h3, rfl⟩ ?_
    rintro s ⟨h2, h3, h4⟩
    refine .nsq ?_
    refine .ret ?_
    have hr := Option.some.inj h
    subst hr
    exact rrA (res_tmp h4) rfl
  · refine .skip ?_
    refine .nsq ?_
    refine .seq ?_
    refine .seq ?_
    refine run_reg ?_
    refine e_end ?_
    refine g_v1 (t := 2) (u := (.ref (.bx 2) 0 [] (.agg [(.int .i64 a_1.1), (Enc.enc (a_1.2 : List (Int × Int)))]))) (.ref (.bx 2) 0 [1] (Enc.enc (a_1.2 : List (Int × Int)))) h2 rfl rfl ?_
    refine g_v1 (t := 10) (u := (.ref (.bx 2) 0 [1] (Enc.enc (a_1.2 : List (Int × Int))))) (Enc.enc (a_1.2 : List (Int × Int))) rfl rfl rfl ?_
    refine g_v1 (t := 3) (u := (.ref (.bx 3) 0 [] (.agg [(.int .i64 b_2.1), (Enc.enc (b_2.2 : List (Int × Int)))]))) (.ref (.bx 3) 0 [1] (Enc.enc (b_2.2 : List (Int × Int)))) h3 rfl rfl ?_
    refine g_v1 (t := 12) (u := (.ref (.bx 3) 0 [1] (Enc.enc (b_2.2 : List (Int × Int))))) (Enc.enc (b_2.2 : List (Int × Int))) rfl rfl rfl ?_
    obtain ⟨r_3, E_r_3, h⟩ := bind_some h
    refine g_call (m := 0) (al := false) (r := (Enc.enc (r_3 : Bool))) [Enc.enc (a_1.2 : (List (Int × Int))), Enc.enc (b_2.2 : (List (Int × Int)))] (ta_cons (v := (Enc.enc (a_1.2 : List (Int × Int)))) rfl rfl (Enc.erase_enc (a_1.2 : (List (Int × Int)))) (ta_cons (v := (Enc.enc (b_2.2 : List (Int × Int)))) rfl rfl (Enc.erase_enc (b_2.2 : (List (Int × Int)))) ta_nil)) (H.c54 _ _ _ E_r_3) H.g54 rfl rfl rfl rfl ?_
    refine g_v1 (t := 14) (u := (.bool r_3)) (.bool (!r_3)) rfl rfl rfl ?_
    refine g_end ?_
    refine e_end ?_
    refine renew [(4, (.bool false)), (15, (.bool (!r_3)))] ⟨h4, rfl⟩ ?_
    rintro s ⟨h4, h15⟩
    refine .nsq ?_
    refine run_cond (t := (!r_3)) h15 h (fun h => ?_) (fun h => ?_)
    · refine .seq ?_
      refine run_reg ?_
      refine e_end ?_
      refine g_v0 (.bool false) rfl rfl ?_
      refine g_end ?_
      refine e_end ?_
      refine renew [(4, (.bool false))] rfl ?_
      rintro s h4
      refine .nsq ?_
      refine .ret ?_
      have hr := Option.some.inj h
      subst hr
      exact rrA (res_tmp h4) rfl
    · refine .skip ?_
      refine .nsq ?_
      refine .seq ?_
      refine run_reg ?_
      refine e_end ?_
      refine g_v0 (.bool true) rfl rfl ?_
      refine g_end ?_
      refine e_end ?_
      refine renew [(4, (.bool true))] rfl ?_
      rintro s h4
      refine .nsq ?_
      refine .ret ?_
      have hr := Option.some.inj h
      subst hr
      exact rrA (res_tmp h4) rfl
end
def e20 (F : Nat) : Ent := ⟨20, da (fun (x : ((Int × (List (Int × Int))) × (Int × (List (Int × Int))) × Unit)) => w_eqGraph F x.1 x.2.1) (fun (r : Bool) => (Enc.enc (r : Bool))), 0, false, selF []⟩
theorem p20 {F : Nat} {x0 : (Int × (List (Int × Int)))} {x1 : (Int × (List (Int × Int)))} {r : Bool} (h : w_eqGraph F x0 x1 = some r) : (e20 F).den [Enc.enc x0, Enc.enc x1] = some (Enc.enc (r : Bool)) := da_put (f := fun (x : ((Int × (List (Int × Int))) × (Int × (List (Int × Int))) × Unit)) => w_eqGraph F x.1 x.2.1) (t := fun (r : Bool) => (Enc.enc (r : Bool))) (x0, x1, ()) h
theorem o20 {D : Den} {σ : Sig} {F : Nat} (hF : Fits2 Try.prog D σ) (H : H20 D σ F) : (e20 F).Ok Try.prog := by
  refine ok_of (f := 20) (show unk 20 = 20 from rfl) (fun args r h => ?_) ⟨Try.f20, Try.func20, rfl, rfl⟩
  obtain ⟨⟨x0, x1, _⟩, y, rfl, hy, rfl⟩ := da_open h
  exact contract_run hF (by kernel_rfl) Try.func20 rfl c20 (show 2 ≤ Try.f20.ntmps by decide) (t20 H x0 x1 _ ⟨rfl, rfl⟩ hy)
/- loop.example/g01109/laws.toIntA2S -/
def A50o_2 : AC := (AC.cond (O.t 11) AC.skip (AC.exit 0))
def A50o_4 : AC := (AC.reg [] [(I.mk (some 12) none false (X.v (A.mov (O.t 4)))), (I.mk (some 13) none false (X.v (A.bin BinOp.add (O.t 12) (O.k (V.int IntKind.i64 (Int.ofNat 1)))))), (I.mk (some 4) none false (X.v (A.mov (O.t 13))))] [])
def A50o_3 : AC := (AC.seq (AC.block 1 (AC.reg [] [(I.mk (some 14) none false (X.v (A.mov (O.t 3)))), (I.mk (some 15) none false (X.v (A.mov (O.t 4)))), (I.mk (some 16) none false (X.v (A.mov (O.t 0)))), (I.mk (some 17) none false (X.v (A.mov (O.t 4)))), (I.mk (some 18) none false (X.v (A.idx (O.t 16) (O.t 17) 2))), (I.mk (some 19) none false (X.v (A.load (Sh.ag [Sh.s, Sh.s]) (O.t 18)))), (I.mk (some 20) none false (X.call (O.k (V.fn 99 [] [])) [(O.t 19)])), (I.mk (some 21) none false (X.v (A.idx (O.t 14) (O.t 15) 2))), (I.mk none none false (X.store (Sh.ag [Sh.s, Sh.s]) (O.t 21) (O.t 20)))] [])) A50o_4)
def A50o_1 : AC := (AC.seq (AC.seq (AC.reg [] [(I.mk (some 8) none false (X.v (A.mov (O.t 4)))), (I.mk (some 9) none false (X.v (A.mov (O.t 0)))), (I.mk (some 10) none false (X.v (A.len (O.t 9)))), (I.mk (some 11) none false (X.v (A.bin BinOp.lss (O.t 8) (O.t 10))))] []) A50o_2) A50o_3)
def A50o_5 : AC := (AC.seq (AC.reg [] [(I.mk (some 22) none false (X.v (A.mov (O.t 3)))), (I.mk (some 2) none false (X.v (A.mov (O.t 22))))] [.home 3 2]) AC.ret)
def A50o_8 : AC := (AC.block 0 (AC.loop A50o_1))
def A50o_7 : AC := (AC.seq (AC.seq (AC.reg [] [(I.mk (some 4) none false (X.v (A.mov (O.k (V.int IntKind.i64 (Int.ofNat 0))))))] []) A50o_8) A50o_5)
def A50o_6 : AC := (AC.seq (AC.reg [.clr [7]] [(I.mk (some 5) none false (X.v (A.mov (O.t 0)))), (I.mk (some 6) none false (X.v (A.len (O.t 5)))), (I.mk (some 7) none false (X.mk (O.t 6) (V.agg [(V.int IntKind.i64 (Int.ofNat 0)), (V.int IntKind.i64 (Int.ofNat 0))]))), (I.mk (some 3) none false (X.v (A.mov (O.t 7))))] [.home 7 3]) A50o_7)
def A50o : AC := (AC.seq (AC.reg [] [(I.mk (some 2) none false (X.v (A.mov (O.k (V.sl Tok.nl (Sh.ag [Sh.s, Sh.s]) 0 [])))))] []) A50o_6)
def an50o : List An := [{ id := 1, pre := [.clr [7]], ep := [.home 7 3], lin := [], sp := [] }, { id := 6, pre := [], ep := [.home 3 2], lin := [], sp := [] }]
theorem c50o : cC Try.prog Try.f50.ntmps an50o (Try.f50.body.getD .skip) = some A50o := by kernel_rfl
structure H50o (D : Den) (σ : Sig) (F : Nat) : Prop where
  c99 : ∀ (x0 : (Int × Int)) r, w_toIntA2 F x0 = some r → D 99 [Enc.enc x0] = some (Enc.enc (r : (Int × Int)))
  g99 : σ 99 = some (0, false)
abbrev R50o (r : (NL (Int × Int))) : (Nat → V) → Prop := RR Try.prog [.tmp 2] 1 false (encO .sh (r : NL (Int × Int)))
section
variable {D : Den} {σ : Sig} {F : Nat} {r : (NL (Int × Int))}
def w_toIntA2S_o_l1 (F : Nat) (a_1 : (List (Int × Int)))  : Nat → (List (Int × Int)) → Int → Option (NL (Int × Int))
  | 0, _, _ => none
  | k + 1, out_6, i_7 =>
    bif decide (i_7 < (a_1.length : Int)) then
      (idx a_1 i_7).bind fun e_11 =>
      (w_toIntA2 F e_11).bind fun r_12 =>
      (idx out_6 i_7).bind fun e_13 =>
      (w_toIntA2S_o_l1 F a_1 k) (out_6.set i_7.toNat r_12) (w64 (i_7 + 1))
    else
      some (.of out_6)
theorem t_f50o_l1 (H : H50o D σ F) (a_1 : (List (Int × Int)))  : ∀ (k : Nat) (out_6 : (List (Int × Int))) (i_7 : Int) (s : Nat → V), Facts [(0, (Enc.enc (a_1 : List (Int × Int)))), (2, (.sl .nl (Enc.shp (Int × Int)) 0 [])), (3, (encO (.at 3 []) (.of (out_6 : List (Int × Int))))), (4, (.int .i64 i_7))] s → w_toIntA2S_o_l1 F a_1 k out_6 i_7 = some r → Run D σ (R50o r) (.run A50o_1 [.lp A50o_1, .bk 0, .sq A50o_5]) s := by
  intro k
  induction k with
  | zero => intro out_6 i_7 s _ h; exact nomatch (h : (none : Option _) = some r)
  | succ k ih =>
    intro out_6 i_7 s hs h
    rw [w_toIntA2S_o_l1] at h
    obtain ⟨h0, h2, h3, h4⟩ := hs
    refine .seq ?_
    refine .seq ?_
    refine run_reg ?_
    refine e_end ?_
    refine g_v1 (t := 4) (u := (.int .i64 i_7)) (.int .i64 i_7) h4 rfl rfl ?_
    refine g_v1 (t := 0) (u := (Enc.enc (a_1 : List (Int × Int)))) (Enc.enc (a_1 : List (Int × Int))) h0 rfl rfl ?_
    refine g_v (.int .i64 (a_1.length : Int)) (ev_len (xs := a_1) rfl) ?_
    refine g_v2 (t1 := 8) (t2 := 10) (u1 := (.int .i64 i_7)) (u2 := (.int .i64 (a_1.length : Int))) (.bool (decide (i_7 < (a_1.length : Int)))) rfl rfl rfl rfl ?_
    refine g_end ?_
    refine e_end ?_
    refine renew [(0, (Enc.enc (a_1 : List (Int × Int)))), (2, (.sl .nl (Enc.shp (Int × Int)) 0 [])), (3, (encO (.at 3 []) (.of (out_6 : List (Int × Int))))), (4, (.int .i64 i_7)), (11, (.bool (decide (i_7 < (a_1.length : Int)))))] ⟨h0, h2, h3, h4, rfl⟩ ?_
    rintro s ⟨h0, h2, h3, h4, h11⟩
    refine .nsq ?_
    refine run_cond (t := decide (i_7 < (a_1.length : Int))) h11 h (fun h => ?_) (fun h => ?_)
    · refine .skip ?_
      refine .nsq ?_
      refine .seq ?_
      refine .block ?_
      refine run_reg ?_
      refine e_end ?_
      refine g_v1 (t := 3) (u := (encO (.at 3 []) (.of (out_6 : List (Int × Int))))) (encO (.at 3 []) (.of (out_6 : List (Int × Int)))) h3 rfl rfl ?_
      refine g_v1 (t := 4) (u := (.int .i64 i_7)) (.int .i64 i_7) h4 rfl rfl ?_
      refine g_v1 (t := 0) (u := (Enc.enc (a_1 : List (Int × Int)))) (Enc.enc (a_1 : List (Int × Int))) h0 rfl rfl ?_
      refine g_v1 (t := 4) (u := (.int .i64 i_7)) (.int .i64 i_7) h4 rfl rfl ?_
      obtain ⟨e_11, E_e_11, h⟩ := bind_some h
      refine g_v (.ref .sh 0 [] (.agg [(.int .i64 e_11.1), (.int .i64 e_11.2)])) (ev_idx (t := .sh) (lo := 0) (xs := a_1) rfl rfl E_e_11 rfl rfl) ?_
      refine g_v1 (t := 18) (u := (.ref .sh 0 [] (.agg [(.int .i64 e_11.1), (.int .i64 e_11.2)]))) (.agg [(.int .i64 e_11.1), (.int .i64 e_11.2)]) rfl rfl rfl ?_
      obtain ⟨r_12, E_r_12, h⟩ := bind_some h
      refine g_call (m := 0) (al := false) (r := (Enc.enc (r_12 : (Int × Int)))) [Enc.enc (e_11 : (Int × Int))] (ta_cons (v := (.agg [(.int .i64 e_11.1), (.int .i64 e_11.2)])) rfl rfl (Enc.erase_enc (e_11 : (Int × Int))) ta_nil) (H.c99 _ _ E_r_12) H.g99 rfl rfl rfl rfl ?_
      obtain ⟨e_13, E_e_13, h⟩ := bind_some h
      refine g_v (.ref (.at 3 []) i_7.toNat [] (.agg [(.int .i64 e_13.1), (.int .i64 e_13.2)])) (ev_idxO (o := (.of out_6)) rfl rfl E_e_13 rfl) ?_
      refine g_store (.agg [(.int .i64 r_12.1), (.int .i64 r_12.2)]) (rd_of rfl rfl) (rd_of rfl rfl) (by refine ⟨by decide, by decide, rfl, rfl, rfl, ?_⟩; first | rfl | simp [V.toks, V.tokss, Enc.toks_enc]) ?_
      refine g_end ?_
      refine e_end ?_
      refine renew [(0, (Enc.enc (a_1 : List (Int × Int)))), (2, (.sl .nl (Enc.shp (Int × Int)) 0 [])), (3, (encO (.at 3 []) (.of (out_6.set i_7.toNat r_12 : List (Int × Int))))), (4, (.int .i64 i_7))] ⟨(keep_mut h0 (Enc.mut_enc _ _ _ _ (a_1 : List (Int × Int)))), (keep_mut h2 rfl), (keep_mut h3 mut_own), (keep_mut h4 rfl)⟩ ?_
      rintro s ⟨h0, h2, h3, h4⟩
      refine .nbk ?_
      refine .nsq ?_
      refine run_reg ?_
      refine e_end ?_
      refine g_v1 (t := 4) (u := (.int .i64 i_7)) (.int .i64 i_7) h4 rfl rfl ?_
      refine g_v1 (t := 12) (u := (.int .i64 i_7)) (.int .i64 (w64 (i_7 + 1))) rfl rfl rfl ?_
      refine g_v1 (t := 13) (u := (.int .i64 (w64 (i_7 + 1)))) (.int .i64 (w64 (i_7 + 1))) rfl rfl rfl ?_
      refine g_end ?_
      refine e_end ?_
      refine renew [(0, (Enc.enc (a_1 : List (Int × Int)))), (2, (.sl .nl (Enc.shp (Int × Int)) 0 [])), (3, (encO (.at 3 []) (.of (out_6.set i_7.toNat r_12 : List (Int × Int))))), (4, (.int .i64 (w64 (i_7 + 1))))] ⟨h0, h2, h3, rfl⟩ ?_
      rintro s ⟨h0, h2, h3, h4⟩
      refine .nlp ?_
      exact ih (out_6.set i_7.toNat r_12) (w64 (i_7 + 1)) _ ⟨h0, h2, h3, h4⟩ h
    · refine .exit ?_
      refine .esq ?_
      refine .elp ?_
      refine .ebk ?_
      refine .nsq ?_
      refine .seq ?_
      refine run_reg ?_
      refine e_end ?_
      refine g_v1 (t := 3) (u := (encO (.at 3 []) (.of (out_6 : List (Int × Int))))) (encO (.at 3 []) (.of (out_6 : List (Int × Int)))) h3 rfl rfl ?_
      refine g_v1 (t := 22) (u := (encO (.at 3 []) (.of (out_6 : List (Int × Int))))) (encO (.at 3 []) (.of (out_6 : List (Int × Int)))) rfl rfl rfl ?_
      refine g_end ?_
      refine e_home (r := 3) (x := 2) (v := (encO (.at 3 []) (.of (out_6 : List (Int × Int))))) (by exact rfl) rfl (fun s_3 hg_3 => ?_)
      refine e_end ?_
      refine renew [(2, (encO (.at 2 []) (.of (out_6 : List (Int × Int)))))] (hg_3 2 (encO (.at 3 []) (.of (out_6 : List (Int × Int)))) (encO (.at 2 []) (.of (out_6 : List (Int × Int)))) rfl (map_encO (r := 3) (p := []) rfl rfl)) ?_
      rintro s h2
      refine .nsq ?_
      refine .ret ?_
      have hr := Option.some.inj h
      subst hr
      exact rrA (res_tmp h2) (fin_retO (finO_own (o := ((.of out_6) : NL (Int × Int)))) rfl (mine_own rfl))
def w_toIntA2S_o (F : Nat) (a_1 : (List (Int × Int))) : Option (NL (Int × Int)) :=
  (mkN (a_1.length : Int) (0, 0)).bind fun mk_2 =>
  w_toIntA2S_o_l1 F a_1 F mk_2 0
theorem t50o (H : H50o D σ F) (a_1 : (List (Int × Int))) (s : Nat → V) (hs : Facts [(0, (Enc.enc (a_1 : List (Int × Int))))] s) (h : w_toIntA2S_o F a_1 = some r) : Run D σ (R50o r) (.run A50o []) s := by
  unfold w_toIntA2S_o at h
  have h0 := hs
  refine .seq ?_
  refine run_reg ?_
  refine e_end ?_
  refine g_v0 (.sl .nl (Enc.shp (Int × Int)) 0 []) rfl rfl ?_
  refine g_end ?_
  refine e_end ?_
  refine renew [(0, (Enc.enc (a_1 : List (Int × Int)))), (2, (.sl .nl (Enc.shp (Int × Int)) 0 []))] ⟨h0, rfl⟩ ?_
  rintro s ⟨h0, h2⟩
  refine .nsq ?_
  refine .seq ?_
  refine run_reg ?_
  refine e_clr ?_
  refine e_end ?_
  refine g_v1 (t := 0) (u := (Enc.enc (a_1 : List (Int × Int)))) (Enc.enc (a_1 : List (Int × Int))) (keep_clear (s := s) (pk := [7]) h0 rfl (Enc.map_enc _ (a_1 : List (Int × Int)))) rfl rfl ?_
  refine g_v (.int .i64 (a_1.length : Int)) (ev_len (xs := a_1) rfl) ?_
  obtain ⟨mk_2, E_mk_2, h⟩ := bind_some h
  refine g_mk ((0, 0) : (Int × Int)) rfl rfl (gone_clear (s := s) (pk := [7]) (t := 7) rfl) E_mk_2 ?_
  refine g_v1 (t := 7) (u := (encO (.at 7 []) (.of (mk_2 : List (Int × Int))))) (encO (.at 7 []) (.of (mk_2 : List (Int × Int)))) rfl rfl rfl ?_
  refine g_end ?_
  refine e_home (r := 7) (x := 3) (v := (encO (.at 7 []) (.of (mk_2 : List (Int × Int))))) (by exact rfl) rfl (fun s_2 hg_2 => ?_)
  refine e_end ?_
  refine renew [(0, (Enc.enc (a_1 : List (Int × Int)))), (2, (.sl .nl (Enc.shp (Int × Int)) 0 [])), (3, (encO (.at 3 []) (.of (mk_2 : List (Int × Int)))))] ⟨(hg_2 0 (Enc.enc (a_1 : List (Int × Int))) (Enc.enc (a_1 : List (Int × Int))) (keep_clear (s := s) (pk := [7]) h0 rfl (Enc.map_enc _ (a_1 : List (Int × Int)))) (Enc.map_enc _ (a_1 : List (Int × Int)))), (hg_2 2 (.sl .nl (Enc.shp (Int × Int)) 0 []) (.sl .nl (Enc.shp (Int × Int)) 0 []) (keep_clear (s := s) (pk := [7]) h2 rfl rfl) rfl), (hg_2 3 (encO (.at 7 []) (.of (mk_2 : List (Int × Int)))) (encO (.at 3 []) (.of (mk_2 : List (Int × Int)))) rfl (map_encO (r := 7) (p := []) rfl rfl))⟩ ?_
  rintro s ⟨h0, h2, h3⟩
  refine .nsq ?_
  refine .seq ?_
  refine .seq ?_
  refine run_reg ?_
  refine e_end ?_
  refine g_v0 (.int .i64 0) rfl rfl ?_
  refine g_end ?_
  refine e_end ?_
  refine renew [(0, (Enc.enc (a_1 : List (Int × Int)))), (2, (.sl .nl (Enc.shp (Int × Int)) 0 [])), (3, (encO (.at 3 []) (.of (mk_2 : List (Int × Int))))), (4, (.int .i64 0))] ⟨h0, h2, h3, rfl⟩ ?_
  rintro s ⟨h0, h2, h3, h4⟩
  refine .nsq ?_
  refine .block ?_
  refine .loop ?_
  exact t_f50o_l1 H a_1 F mk_2 0 _ ⟨h0, h2, h3, h4⟩ h
end
def e50o (F : Nat) : Ent := ⟨1000000050, da (fun (x : ((List (Int × Int)) × Unit)) => w_toIntA2S_o F x.1) (fun (r : (NL (Int × Int))) => (encO .sh (r : NL (Int × Int)))), 1, false, selF []⟩
theorem p50o {F : Nat} {x0 : (List (Int × Int))} {r : (NL (Int × Int))} (h : w_toIntA2S_o F x0 = some r) : (e50o F).den [Enc.enc x0] = some (encO .sh (r : NL (Int × Int))) := da_put (f := fun (x : ((List (Int × Int)) × Unit)) => w_toIntA2S_o F x.1) (t := fun (r : (NL (Int × Int))) => (encO .sh (r : NL (Int × Int)))) (x0, ()) h
theorem o50o {D : Den} {σ : Sig} {F : Nat} (hF : Fits2 Try.prog D σ) (H : H50o D σ F) : (e50o F).Ok Try.prog := by
  refine ok_of (f := 50) (show unk 1000000050 = 50 from rfl) (fun args r h => ?_) ⟨Try.f50, Try.func50, rfl, rfl⟩
  obtain ⟨⟨x0, _⟩, y, rfl, hy, rfl⟩ := da_open h
  exact contract_run hF (by kernel_rfl) Try.func50 rfl c50o (show 1 ≤ Try.f50.ntmps by decide) (t50o H x0 _ rfl hy)
/- loop.example/g01109/laws.toGraph -/
def A17o_4 : AC := (AC.seq (AC.reg [] [(I.mk (some 11) none false (X.v (A.load (Sh.ag [Sh.s, Sh.p]) (O.t 3)))), (I.mk none none false (X.store (Sh.ag [Sh.s, Sh.p]) (O.t 2) (O.t 11)))] []) AC.ret)
def A17o_3 : AC := (AC.seq (AC.reg [.clr [9]] [(I.mk (some 7) none false (X.v (A.fld (O.t 1) 1 1))), (I.mk (some 8) none false (X.v (A.load Sh.p (O.t 7)))), (I.mk (some 9) none true (X.call (O.k (V.fn 50 [] [])) [(O.t 8)])), (I.mk (some 10) none false (X.v (A.fld (O.t 3) 1 1))), (I.mk none none false (X.store Sh.p (O.t 10) (O.t 9)))] []) A17o_4)
def A17o_2 : AC := (AC.seq (AC.reg [] [(I.mk (some 4) none false (X.v (A.fld (O.t 1) 0 0))), (I.mk (some 5) none false (X.v (A.load Sh.s (O.t 4)))), (I.mk (some 6) none false (X.v (A.fld (O.t 3) 0 0))), (I.mk none none false (X.store Sh.s (O.t 6) (O.t 5)))] []) A17o_3)
def A17o_1 : AC := (AC.seq (AC.reg [.clr [3]] [(I.mk (some 3) none false (X.alloc (V.agg [(V.int IntKind.i64 (Int.ofNat 0)), (V.sl Tok.nl (Sh.ag [Sh.s, Sh.s]) 0 [])])))] []) A17o_2)
def A17o : AC := (AC.seq (AC.reg [.clr [1, 2]] [(I.mk (some 1) none false (X.box (O.t 0))), (I.mk (some 2) none false (X.alloc (V.agg [(V.int IntKind.i64 (Int.ofNat 0)), (V.sl Tok.nl (Sh.ag [Sh.s, Sh.s]) 0 [])])))] []) A17o_1)
def an17o : List An := [{ id := 0, pre := [.clr [1, 2]], ep := [], lin := [], sp := [] }, { id := 1, pre := [.clr [3]], ep := [], lin := [], sp := [] }, { id := 3, pre := [.clr [9]], ep := [], lin := [2], sp := [] }]
theorem c17o : cC Try.prog Try.f17.ntmps an17o (Try.f17.body.getD .skip) = some A17o := by kernel_rfl
structure H17o (D : Den) (σ : Sig) (F : Nat) : Prop where
  c50o : ∀ (x0 : (List (Int × Int))) r, w_toIntA2S_o F x0 = some r → D 1000000050 [Enc.enc x0] = some (encO .sh (r : NL (Int × Int)))
  g50o : σ 1000000050 = some (1, false)
abbrev R17o (r : (Int × (NL (Int × Int)))) : (Nat → V) → Prop := RR Try.prog [.cell 2 29] 1 false (.agg [(Enc.enc (r.1 : Int)), (encO .sh (r.2 : NL (Int × Int)))])
section
variable {D : Den} {σ : Sig} {F : Nat} {r : (Int × (NL (Int × Int)))}
def w_toGraph_o (F : Nat) (a_1 : (Int × (List (Int × Int)))) : Option (Int × (NL (Int × Int))) :=
  (w_toIntA2S_o F a_1.2).bind fun r_2 =>
  some (a_1.1, r_2)
theorem t17o (H : H17o D σ F) (a_1 : (Int × (List (Int × Int)))) (s : Nat → V) (hs : Facts [(0, (.agg [(.int .i64 a_1.1), (Enc.enc (a_1.2 : List (Int × Int)))]))] s) (h : w_toGraph_o F a_1 = some r) : Run D σ (R17o r) (.run A17o []) s := by
  unfold w_toGraph_o at h
  have h0 := hs
  refine .seq ?_
  refine run_reg ?_
  refine e_clr ?_
  refine e_end ?_
  refine g_box (.agg [(.int .i64 a_1.1), (Enc.enc (a_1.2 : List (Int × Int)))]) (rd_of (keep_clear (s := s) (pk := [1, 2]) h0 rfl (map_agg (maps_cons rfl (maps_cons (Enc.map_enc _ (a_1.2 : List (Int × Int))) maps_nil)))) rfl) (gone_clear (s := s) (pk := [1, 2]) (t := 1) rfl) rfl ?_
  refine g_alloc (gone_clear (s := s) (pk := [1, 2]) (t := 2) rfl) ?_
  refine g_end ?_
  refine e_end ?_
  refine renew [(1, (.ref (.bx 1) 0 [] (.agg [(.int .i64 a_1.1), (Enc.enc (a_1.2 : List (Int × Int)))]))), (2, (.ref (.bx 2) 0 [] (.agg [(.int .i64 0), (.sl .nl (Enc.shp (Int × Int)) 0 [])])))] ⟨rfl, rfl⟩ ?_
  rintro s ⟨h1, h2⟩
  refine .nsq ?_
  refine .seq ?_
  refine run_reg ?_
  refine e_clr ?_
  refine e_end ?_
  refine g_alloc (gone_clear (s := s) (pk := [3]) (t := 3) rfl) ?_
  refine g_end ?_
  refine e_end ?_
  refine renew [(1, (.ref (.bx 1) 0 [] (.agg [(.int .i64 a_1.1), (Enc.enc (a_1.2 : List (Int × Int)))]))), (2, (.ref (.bx 2) 0 [] (.agg [(.int .i64 0), (.sl .nl (Enc.shp (Int × Int)) 0 [])]))), (3, (.ref (.bx 3) 0 [] (.agg [(.int .i64 0), (.sl .nl (Enc.shp (Int × Int)) 0 [])])))] ⟨(keep_clear (s := s) (pk := [3]) h1 rfl (map_bx rfl (map_agg (maps_cons rfl (maps_cons (Enc.map_enc _ (a_1.2 : List (Int × Int))) maps_nil))))), (keep_clear (s := s) (pk := [3]) h2 rfl (map_bx rfl (map_agg (maps_cons rfl (maps_cons rfl maps_nil))))), rfl⟩ ?_
  rintro s ⟨h1, h2, h3⟩
  refine .nsq ?_
  refine .seq ?_
  refine run_reg ?_
  refine e_end ?_
  refine g_v1 (t := 1) (u := (.ref (.bx 1) 0 [] (.agg [(.int .i64 a_1.1), (Enc.enc (a_1.2 : List (Int × Int)))]))) (.ref (.bx 1) 0 [0] (.int .i64 a_1.1)) h1 rfl rfl ?_
  refine g_v1 (t := 4) (u := (.ref (.bx 1) 0 [0] (.int .i64 a_1.1))) (.int .i64 a_1.1) rfl rfl rfl ?_
  refine g_v1 (t := 3) (u := (.ref (.bx 3) 0 [] (.agg [(.int .i64 0), (.sl .nl (Enc.shp (Int × Int)) 0 [])]))) (.ref (.bx 3) 0 [0] (.int .i64 0)) h3 rfl rfl ?_
  refine g_store (.int .i64 a_1.1) (rd_of rfl rfl) (rd_of rfl rfl) (by refine ⟨by decide, by decide, rfl, rfl, rfl, ?_⟩; first | rfl | simp [V.toks, V.tokss, Enc.toks_enc]) ?_
  refine g_end ?_
  refine e_end ?_
  refine renew [(1, (.ref (.bx 1) 0 [] (.agg [(.int .i64 a_1.1), (Enc.enc (a_1.2 : List (Int × Int)))]))), (2, (.ref (.bx 2) 0 [] (.agg [(.int .i64 0), (.sl .nl (Enc.shp (Int × Int)) 0 [])]))), (3, (.ref (.bx 3) 0 [] (.agg [(.int .i64 a_1.1), (.sl .nl (Enc.shp (Int × Int)) 0 [])])))] ⟨(keep_mut h1 (mut_ref_ne rfl rfl (mut_agg (muts_cons rfl (muts_cons (Enc.mut_enc _ _ _ _ (a_1.2 : List (Int × Int))) rfl))))), (keep_mut h2 (mut_ref_ne rfl rfl (mut_agg (muts_cons rfl (muts_cons rfl rfl))))), (keep_mut h3 rfl)⟩ ?_
  rintro s ⟨h1, h2, h3⟩
  refine .nsq ?_
  refine .seq ?_
  refine run_reg ?_
  refine e_clr ?_
  refine e_end ?_
  refine g_v1 (t := 1) (u := (.ref (.bx 1) 0 [] (.agg [(.int .i64 a_1.1), (Enc.enc (a_1.2 : List (Int × Int)))]))) (.ref (.bx 1) 0 [1] (Enc.enc (a_1.2 : List (Int × Int)))) (keep_clear (s := s) (pk := [9]) h1 rfl (map_bx rfl (map_agg (maps_cons rfl (maps_cons (Enc.map_enc _ (a_1.2 : List (Int × Int))) maps_nil))))) rfl rfl ?_
  refine g_v1 (t := 7) (u := (.ref (.bx 1) 0 [1] (Enc.enc (a_1.2 : List (Int × Int))))) (Enc.enc (a_1.2 : List (Int × Int))) rfl rfl rfl ?_
  obtain ⟨r_2, E_r_2, h⟩ := bind_some h
  refine g_callO (m := 1) (al := false) (r := (encO .sh (r_2 : NL (Int × Int)))) (v := (encO (.at 9 []) (r_2 : NL (Int × Int)))) (kk := 1000000050) [Enc.enc (a_1.2 : (List (Int × Int)))] (ta_cons (v := (Enc.enc (a_1.2 : List (Int × Int)))) rfl rfl (Enc.erase_enc (a_1.2 : (List (Int × Int)))) ta_nil) (H.c50o _ _ E_r_2) H.g50o rfl toks_encS tag_encO ok_encP (gone_clear (s := s) (pk := [9]) (t := 9) rfl) ?_
  refine g_v1 (t := 3) (u := (.ref (.bx 3) 0 [] (.agg [(.int .i64 a_1.1), (.sl .nl (Enc.shp (Int × Int)) 0 [])]))) (.ref (.bx 3) 0 [1] (.sl .nl (Enc.shp (Int × Int)) 0 [])) (keep_clear (s := s) (pk := [9]) h3 rfl (map_bx rfl (map_agg (maps_cons rfl (maps_cons rfl maps_nil))))) rfl rfl ?_
  refine g_store (encO (.at 9 []) (r_2 : NL (Int × Int))) (rd_of rfl rfl) (rd_of rfl ok_encP) ⟨by decide, by decide, mem_encP, shp_encP, rfl, tok_encP rfl rfl⟩ ?_
  refine g_end ?_
  refine e_end ?_
  refine renew [(2, (.ref (.bx 2) 0 [] (.agg [(.int .i64 0), (.sl .nl (Enc.shp (Int × Int)) 0 [])]))), (3, (.ref (.bx 3) 0 [] (.agg [(.int .i64 a_1.1), (encO (.at 9 []) (r_2 : NL (Int × Int)))])))] ⟨(keep_mut (keep_clear (s := s) (pk := [9]) h2 rfl (map_bx rfl (map_agg (maps_cons rfl (maps_cons rfl maps_nil))))) (mut_ref_ne rfl rfl (mut_agg (muts_cons rfl (muts_cons rfl rfl))))), (keep_mut (keep_clear (s := s) (pk := [9]) h3 rfl (map_bx rfl (map_agg (maps_cons rfl (maps_cons rfl maps_nil))))) rfl)⟩ ?_
  rintro s ⟨h2, h3⟩
  refine .nsq ?_
  refine .seq ?_
  refine run_reg ?_
  refine e_end ?_
  refine g_v (.agg [(.int .i64 a_1.1), (encO (.at 9 []) (r_2 : NL (Int × Int)))]) (ev_loadN (c := (.agg [(.int .i64 a_1.1), (encO (.at 9 []) (r_2 : NL (Int × Int)))])) h3 (by simp [V.shape, V.shapes, shape_encP, Sh.beq, Sh.beqs])) ?_
  refine g_store (.agg [(.int .i64 a_1.1), (encO (.at 9 []) (r_2 : NL (Int × Int)))]) (rd_of h2 rfl) (rd_of rfl rfl) ⟨by decide, by decide, rfl, (by simp [V.shape, V.shapes, shape_encP, Sh.beq, Sh.beqs]), (by simp [V.shape, V.shapes, shape_encP, Sh.beq, Sh.beqs]), (by simp [V.toks, V.tokss, tok_memP])⟩ ?_
  refine g_end ?_
  refine e_end ?_
  refine renew [(2, (.ref (.bx 2) 0 [] (.agg [(.int .i64 a_1.1), (encO (.at 9 []) (r_2 : NL (Int × Int)))])))] (keep_mut h2 rfl) ?_
  rintro s h2
  refine .nsq ?_
  refine .ret ?_
  have hr := Option.some.inj h
  subst hr
  exact rrA (res_cell h2 (by simp only [V.shape, V.shapes, shape_encP]; kernel_rfl)) (fin_retO (finO_agg (finOs_cons finO_int (finOs_cons (finO_own (o := (r_2 : NL (Int × Int)))) finOs_nil))) rfl (mine_agg (mines_cons rfl (mines_cons (mine_own rfl) mines_nil))))
end
def e17o (F : Nat) : Ent := ⟨1000000017, da (fun (x : ((Int × (List (Int × Int))) × Unit)) => w_toGraph_o F x.1) (fun (r : (Int × (NL (Int × Int)))) => (.agg [(Enc.enc (r.1 : Int)), (encO .sh (r.2 : NL (Int × Int)))])), 1, false, selF []⟩
theorem p17o {F : Nat} {x0 : (Int × (List (Int × Int)))} {r : (Int × (NL (Int × Int)))} (h : w_toGraph_o F x0 = some r) : (e17o F).den [Enc.enc x0] = some (.agg [(Enc.enc (r.1 : Int)), (encO .sh (r.2 : NL (Int × Int)))]) := da_put (f := fun (x : ((Int × (List (Int × Int))) × Unit)) => w_toGraph_o F x.1) (t := fun (r : (Int × (NL (Int × Int)))) => (.agg [(Enc.enc (r.1 : Int)), (encO .sh (r.2 : NL (Int × Int)))])) (x0, ()) h
theorem o17o {D : Den} {σ : Sig} {F : Nat} (hF : Fits2 Try.prog D σ) (H : H17o D σ F) : (e17o F).Ok Try.prog := by
  refine ok_of (f := 17) (show unk 1000000017 = 17 from rfl) (fun args r h => ?_) ⟨Try.f17, Try.func17, rfl, rfl⟩
  obtain ⟨⟨x0, _⟩, y, rfl, hy, rfl⟩ := da_open h
  exact contract_run hF (by kernel_rfl) Try.func17 rfl c17o (show 1 ≤ Try.f17.ntmps by decide) (t17o H x0 _ rfl hy)
/- loop.example/g01109/laws.markIntA2S -/
def A55_2 : AC := (AC.cond (O.t 10) AC.skip (AC.exit 0))
def A55_6 : AC := (AC.cond (O.t 14) AC.skip (AC.exit 2))
def A55_8 : AC := (AC.reg [] [(I.mk (some 23) none false (X.v (A.mov (O.t 1)))), (I.mk (some 24) none false (X.v (A.bin BinOp.add (O.t 23) (O.k (V.int IntKind.i64 (Int.ofNat 1)))))), (I.mk (some 1) none false (X.v (A.mov (O.t 24))))] [])
def A55_9 : AC := (AC.reg [] [(I.mk (some 15) none false (X.v (A.mov (O.t 6)))), (I.mk (some 16) none false (X.v (A.bin BinOp.add (O.t 15) (O.k (V.int IntKind.i64 (Int.ofNat 1)))))), (I.mk (some 6) none false (X.v (A.mov (O.t 16))))] [])
def A55_7 : AC := (AC.seq (AC.block 3 (AC.seq (AC.reg [] [(I.mk (some 17) none false (X.v (A.mov (O.t 0)))), (I.mk (some 18) none false (X.v (A.mov (O.t 5)))), (I.mk (some 19) none false (X.v (A.mov (O.t 6)))), (I.mk (some 20) none false (X.v (A.mov (O.t 1)))), (I.mk (some 21) none false (X.v (A.idx (O.t 17) (O.t 18) 2))), (I.mk (some 22) none false (X.v (A.idxA (O.t 21) (O.t 19) 2 1))), (I.mk none none false (X.store Sh.s (O.t 22) (O.t 20)))] []) A55_8)) A55_9)
def A55_5 : AC := (AC.seq (AC.seq (AC.reg [] [(I.mk (some 13) none false (X.v (A.mov (O.t 6)))), (I.mk (some 14) none false (X.v (A.bin BinOp.lss (O.t 13) (O.k (V.int IntKind.i64 (Int.ofNat 2))))))] []) A55_6) A55_7)
def A55_4 : AC := (AC.block 2 (AC.loop A55_5))
def A55_10 : AC := (AC.reg [] [(I.mk (some 11) none false (X.v (A.mov (O.t 5)))), (I.mk (some 12) none false (X.v (A.bin BinOp.add (O.t 11) (O.k (V.int IntKind.i64 (Int.ofNat 1)))))), (I.mk (some 5) none false (X.v (A.mov (O.t 12))))] [])
def A55_3 : AC := (AC.seq (AC.block 1 (AC.seq (AC.reg [] [(I.mk (some 6) none false (X.v (A.mov (O.k (V.int IntKind.i64 (Int.ofNat 0))))))] []) A55_4)) A55_10)
def A55_1 : AC := (AC.seq (AC.seq (AC.reg [] [(I.mk (some 7) none false (X.v (A.mov (O.t 5)))), (I.mk (some 8) none false (X.v (A.mov (O.t 0)))), (I.mk (some 9) none false (X.v (A.len (O.t 8)))), (I.mk (some 10) none false (X.v (A.bin BinOp.lss (O.t 7) (O.t 9))))] []) A55_2) A55_3)
def A55_11 : AC := (AC.seq (AC.reg [] [(I.mk (some 25) none false (X.v (A.mov (O.t 1)))), (I.mk (some 4) none false (X.v (A.mov (O.t 25))))] []) AC.ret)
def A55_13 : AC := (AC.block 0 (AC.loop A55_1))
def A55_12 : AC := (AC.seq (AC.seq (AC.reg [] [(I.mk (some 5) none false (X.v (A.mov (O.k (V.int IntKind.i64 (Int.ofNat 0))))))] []) A55_13) A55_11)
def A55 : AC := (AC.seq (AC.reg [] [(I.mk (some 4) none false (X.v (A.mov (O.k (V.int IntKind.i64 (Int.ofNat 0))))))] []) A55_12)
def an55 : List An := []
theorem c55 : cC Try.prog Try.f55.ntmps an55 (Try.f55.body.getD .skip) = some A55 := by kernel_rfl
structure H55 (D : Den) (σ : Sig) (F : Nat) : Prop where
  mk ::
abbrev R55 (r : (Int × NL (Int × Int))) : (Nat → V) → Prop := RM Try.prog [.tmp 4] (Enc.enc (r.1 : Int)) (encO (.at pinR []) (r.2 : NL (Int × Int)))
section
variable {D : Den} {σ : Sig} {F : Nat} {r : (Int × NL (Int × Int))}
def w_markIntA2S_l1 (F : Nat) (i_13 : Int) (c1 : (NL (Int × Int)) → Int → Int → Option (Int × NL (Int × Int))) : Nat → (NL (Int × Int)) → Int → Int → Option (Int × NL (Int × Int))
  | 0, _, _, _ => none
  | k + 1, a_23, k_24, j_25 =>
    bif decide (j_25 < 2) then
      (idx a_23.list i_13).bind fun e_28 =>
      (idx [e_28.1, e_28.2] j_25).bind fun e_29 =>
      (w_markIntA2S_l1 F i_13 c1 k) (NL.set2 a_23 i_13.toNat j_25 k_24) (w64 (k_24 + 1)) (w64 (j_25 + 1))
    else
      c1 a_23 k_24 (w64 (i_13 + 1))
theorem t_f55_l1 (H : H55 D σ F) (i_13 : Int) (c1 : (NL (Int × Int)) → Int → Int → Option (Int × NL (Int × Int))) (Hc1 : ∀ (a_11 : (NL (Int × Int))) (k_12 : Int) (i_13 : Int) (s : Nat → V), Facts [(0, (encO (.at pinR []) (a_11 : NL (Int × Int)))), (1, (.int .i64 k_12)), (4, (.int .i64 0)), (5, (.int .i64 i_13))] s → c1 a_11 k_12 i_13 = some r → Run D σ (R55 r) (.run A55_1 [.lp A55_1, .bk 0, .sq A55_11]) s) : ∀ (k : Nat) (a_23 : (NL (Int × Int))) (k_24 : Int) (j_25 : Int) (s : Nat → V), Facts [(0, (encO (.at pinR []) (a_23 : NL (Int × Int)))), (1, (.int .i64 k_24)), (4, (.int .i64 0)), (5, (.int .i64 i_13)), (6, (.int .i64 j_25))] s → w_markIntA2S_l1 F i_13 c1 k a_23 k_24 j_25 = some r → Run D σ (R55 r) (.run A55_5 [.lp A55_5, .bk 2, .bk 1, .sq A55_10, .lp A55_1, .bk 0, .sq A55_11]) s := by
  intro k
  induction k with
  | zero => intro a_23 k_24 j_25 s _ h; exact nomatch (h : (none : Option _) = some r)
  | succ k ih =>
    intro a_23 k_24 j_25 s hs h
    rw [w_markIntA2S_l1] at h
    obtain ⟨h0, h1, h4, h5, h6⟩ := hs
    refine .seq ?_
    refine .seq ?_
    refine run_reg ?_
    refine e_end ?_
    refine g_v1 (t := 6) (u := (.int .i64 j_25)) (.int .i64 j_25) h6 rfl rfl ?_
    refine g_v1 (t := 13) (u := (.int .i64 j_25)) (.bool (decide (j_25 < 2))) rfl rfl rfl ?_
    refine g_end ?_
    refine e_end ?_
    refine renew [(0, (encO (.at pinR []) (a_23 : NL (Int × Int)))), (1, (.int .i64 k_24)), (4, (.int .i64 0)), (5, (.int .i64 i_13)), (6, (.int .i64 j_25)), (14, (.bool (decide (j_25 < 2))))] ⟨h0, h1, h4, h5, h6, rfl⟩ ?_
    rintro s ⟨h0, h1, h4, h5, h6, h14⟩
    refine .nsq ?_
    refine run_cond (t := decide (j_25 < 2)) h14 h (fun h => ?_) (fun h => ?_)
    · refine .skip ?_
      refine .nsq ?_
      refine .seq ?_
      refine .block ?_
      refine .seq ?_
      refine run_reg ?_
      refine e_end ?_
      refine g_v (encO (.at pinR []) (a_23 : NL (Int × Int))) (ev_mov h0 ok_encO) ?_
      refine g_v1 (t := 5) (u := (.int .i64 i_13)) (.int .i64 i_13) h5 rfl rfl ?_
      refine g_v1 (t := 6) (u := (.int .i64 j_25)) (.int .i64 j_25) h6 rfl rfl ?_
      refine g_v1 (t := 1) (u := (.int .i64 k_24)) (.int .i64 k_24) h1 rfl rfl ?_
      obtain ⟨e_28, E_e_28, h⟩ := bind_some h
      refine g_v (.ref (.at pinR []) i_13.toNat [] (.agg [(.int .i64 e_28.1), (.int .i64 e_28.2)])) (ev_idxO (o := a_23) rfl rfl E_e_28 rfl) ?_
      obtain ⟨e_29, E_e_29, h⟩ := bind_some h
      refine g_v (.ref (.at pinR []) i_13.toNat [j_25.toNat] (.int .i64 e_29)) (ev_idxA (xs := [e_28.1, e_28.2]) (a := e_29) (n := j_25) (q := []) rfl rfl E_e_29 rfl rfl rfl) ?_
      refine g_store (.int .i64 k_24) (rd_of rfl rfl) (rd_of rfl rfl) (by refine ⟨by decide, by decide, rfl, rfl, rfl, ?_⟩; first | rfl | simp [V.toks, V.tokss, Enc.toks_enc]) ?_
      refine g_end ?_
      refine e_end ?_
      refine renew [(0, (encO (.at pinR []) ((NL.set2 a_23 i_13.toNat j_25 k_24) : NL (Int × Int)))), (1, (.int .i64 k_24)), (4, (.int .i64 0)), (5, (.int .i64 i_13)), (6, (.int .i64 j_25))] ⟨(keep_mut h0 (mut_own2 (o := a_23) E_e_29 rfl)), (keep_mut h1 rfl), (keep_mut h4 rfl), (keep_mut h5 rfl), (keep_mut h6 rfl)⟩ ?_
      rintro s ⟨h0, h1, h4, h5, h6⟩
      refine .nsq ?_
      refine run_reg ?_
      refine e_end ?_
      refine g_v1 (t := 1) (u := (.int .i64 k_24)) (.int .i64 k_24) h1 rfl rfl ?_
      refine g_v1 (t := 23) (u := (.int .i64 k_24)) (.int .i64 (w64 (k_24 + 1))) rfl rfl rfl ?_
      refine g_v1 (t := 24) (u := (.int .i64 (w64 (k_24 + 1)))) (.int .i64 (w64 (k_24 + 1))) rfl rfl rfl ?_
      refine g_end ?_
      refine e_end ?_
      refine renew [(0, (encO (.at pinR []) ((NL.set2 a_23 i_13.toNat j_25 k_24) : NL (Int × Int)))), (1, (.int .i64 (w64 (k_24 + 1)))), (4, (.int .i64 0)), (5, (.int .i64 i_13)), (6, (.int .i64 j_25))] ⟨h0, rfl, h4, h5, h6⟩ ?_
      rintro s ⟨h0, h1, h4, h5, h6⟩
      refine .nbk ?_
      refine .nsq ?_
      refine run_reg ?_
      refine e_end ?_
      refine g_v1 (t := 6) (u := (.int .i64 j_25)) (.int .i64 j_25) h6 rfl rfl ?_
      refine g_v1 (t := 15) (u := (.int .i64 j_25)) (.int .i64 (w64 (j_25 + 1))) rfl rfl rfl ?_
      refine g_v1 (t := 16) (u := (.int .i64 (w64 (j_25 + 1)))) (.int .i64 (w64 (j_25 + 1))) rfl rfl rfl ?_
      refine g_end ?_
      refine e_end ?_
      refine renew [(0, (encO (.at pinR []) ((NL.set2 a_23 i_13.toNat j_25 k_24) : NL (Int × Int)))), (1, (.int .i64 (w64 (k_24 + 1)))), (4, (.int .i64 0)), (5, (.int .i64 i_13)), (6, (.int .i64 (w64 (j_25 + 1))))] ⟨h0, h1, h4, h5, rfl⟩ ?_
      rintro s ⟨h0, h1, h4, h5, h6⟩
      refine .nlp ?_
      exact ih (NL.set2 a_23 i_13.toNat j_25 k_24) (w64 (k_24 + 1)) (w64 (j_25 + 1)) _ ⟨h0, h1, h4, h5, h6⟩ h
    · refine .exit ?_
      refine .esq ?_
      refine .elp ?_
      refine .ebk ?_
      refine .nbk ?_
      refine .nsq ?_
      refine run_reg ?_
      refine e_end ?_
      refine g_v1 (t := 5) (u := (.int .i64 i_13)) (.int .i64 i_13) h5 rfl rfl ?_
      refine g_v1 (t := 11) (u := (.int .i64 i_13)) (.int .i64 (w64 (i_13 + 1))) rfl rfl rfl ?_
      refine g_v1 (t := 12) (u := (.int .i64 (w64 (i_13 + 1)))) (.int .i64 (w64 (i_13 + 1))) rfl rfl rfl ?_
      refine g_end ?_
      refine e_end ?_
      refine renew [(0, (encO (.at pinR []) (a_23 : NL (Int × Int)))), (1, (.int .i64 k_24)), (4, (.int .i64 0)), (5, (.int .i64 (w64 (i_13 + 1))))] ⟨h0, h1, h4, rfl⟩ ?_
      rintro s ⟨h0, h1, h4, h5⟩
      refine .nlp ?_
      exact Hc1 a_23 k_24 (w64 (i_13 + 1)) _ ⟨h0, h1, h4, h5⟩ h
def w_markIntA2S_l2 (F : Nat)   : Nat → (NL (Int × Int)) → Int → Int → Option (Int × NL (Int × Int))
  | 0, _, _, _ => none
  | k + 1, a_11, k_12, i_13 =>
    bif decide (i_13 < (a_11.list.length : Int)) then
      w_markIntA2S_l1 F i_13 (w_markIntA2S_l2 F k) F a_11 k_12 0
    else
      some (k_12, a_11)
theorem t_f55_l2 (H : H55 D σ F)   : ∀ (k : Nat) (a_11 : (NL (Int × Int))) (k_12 : Int) (i_13 : Int) (s : Nat → V), Facts [(0, (encO (.at pinR []) (a_11 : NL (Int × Int)))), (1, (.int .i64 k_12)), (4, (.int .i64 0)), (5, (.int .i64 i_13))] s → w_markIntA2S_l2 F k a_11 k_12 i_13 = some r → Run D σ (R55 r) (.run A55_1 [.lp A55_1, .bk 0, .sq A55_11]) s := by
  intro k
  induction k with
  | zero => intro a_11 k_12 i_13 s _ h; exact nomatch (h : (none : Option _) = some r)
  | succ k ih =>
    intro a_11 k_12 i_13 s hs h
    rw [w_markIntA2S_l2] at h
    obtain ⟨h0, h1, h4, h5⟩ := hs
    refine .seq ?_
    refine .seq ?_
    refine run_reg ?_
    refine e_end ?_
    refine g_v1 (t := 5) (u := (.int .i64 i_13)) (.int .i64 i_13) h5 rfl rfl ?_
    refine g_v (encO (.at pinR []) (a_11 : NL (Int × Int))) (ev_mov h0 ok_encO) ?_
    refine g_v (.int .i64 (a_11.list.length : Int)) (ev_lenO (o := a_11) rfl) ?_
    refine g_v2 (t1 := 7) (t2 := 9) (u1 := (.int .i64 i_13)) (u2 := (.int .i64 (a_11.list.length : Int))) (.bool (decide (i_13 < (a_11.list.length : Int)))) rfl rfl rfl rfl ?_
    refine g_end ?_
    refine e_end ?_
    refine renew [(0, (encO (.at pinR []) (a_11 : NL (Int × Int)))), (1, (.int .i64 k_12)), (4, (.int .i64 0)), (5, (.int .i64 i_13)), (10, (.bool (decide (i_13 < (a_11.list.length : Int)))))] ⟨h0, h1, h4, h5, rfl⟩ ?_
    rintro s ⟨h0, h1, h4, h5, h10⟩
    refine .nsq ?_
    refine run_cond (t := decide (i_13 < (a_11.list.length : Int))) h10 h (fun h => ?_) (fun h => ?_)
    · refine .skip ?_
      refine .nsq ?_
      refine .seq ?_
      refine .block ?_
      refine .seq ?_
      refine run_reg ?_
      refine e_end ?_
      refine g_v0 (.int .i64 0) rfl rfl ?_
      refine g_end ?_
      refine e_end ?_
      refine renew [(0, (encO (.at pinR []) (a_11 : NL (Int × Int)))), (1, (.int .i64 k_12)), (4, (.int .i64 0)), (5, (.int .i64 i_13)), (6, (.int .i64 0))] ⟨h0, h1, h4, h5, rfl⟩ ?_
      rintro s ⟨h0, h1, h4, h5, h6⟩
      refine .nsq ?_
      refine .block ?_
      refine .loop ?_
      exact t_f55_l1 H i_13 (w_markIntA2S_l2 F k) ih F a_11 k_12 0 _ ⟨h0, h1, h4, h5, h6⟩ h
    · refine .exit ?_
      refine .esq ?_
      refine .elp ?_
      refine .ebk ?_
      refine .nsq ?_
      refine .seq ?_
      refine run_reg ?_
      refine e_end ?_
      refine g_v1 (t := 1) (u := (.int .i64 k_12)) (.int .i64 k_12) h1 rfl rfl ?_
      refine g_v1 (t := 25) (u := (.int .i64 k_12)) (.int .i64 k_12) rfl rfl rfl ?_
      refine g_end ?_
      refine e_end ?_
      refine renew [(0, (encO (.at pinR []) (a_11 : NL (Int × Int)))), (4, (.int .i64 k_12))] ⟨h0, rfl⟩ ?_
      rintro s ⟨h0, h4⟩
      refine .nsq ?_
      refine .ret ?_
      have hr := Option.some.inj h
      subst hr
      exact rmA (res_tmp h4) h0
def w_markIntA2S (F : Nat) (a_1 : (On (Int × Int))) (k_2 : Int) : Option (Int × NL (Int × Int)) :=
  w_markIntA2S_l2 F F a_1.v k_2 0
theorem t55 (H : H55 D σ F) (a_1 : (On (Int × Int))) (k_2 : Int) (s : Nat → V) (hs : Facts [(0, (encO (.at pinR []) (a_1.v : NL (Int × Int)))), (1, (.int .i64 k_2))] s) (h : w_markIntA2S F a_1 k_2 = some r) : Run D σ (R55 r) (.run A55 []) s := by
  unfold w_markIntA2S at h
  obtain ⟨h0, h1⟩ := hs
  refine .seq ?_
  refine run_reg ?_
  refine e_end ?_
  refine g_v0 (.int .i64 0) rfl rfl ?_
  refine g_end ?_
  refine e_end ?_
  refine renew [(0, (encO (.at pinR []) (a_1.v : NL (Int × Int)))), (1, (.int .i64 k_2)), (4, (.int .i64 0))] ⟨h0, h1, rfl⟩ ?_
  rintro s ⟨h0, h1, h4⟩
  refine .nsq ?_
  refine .seq ?_
  refine .seq ?_
  refine run_reg ?_
  refine e_end ?_
  refine g_v0 (.int .i64 0) rfl rfl ?_
  refine g_end ?_
  refine e_end ?_
  refine renew [(0, (encO (.at pinR []) (a_1.v : NL (Int × Int)))), (1, (.int .i64 k_2)), (4, (.int .i64 0)), (5, (.int .i64 0))] ⟨h0, h1, h4, rfl⟩ ?_
  rintro s ⟨h0, h1, h4, h5⟩
  refine .nsq ?_
  refine .block ?_
  refine .loop ?_
  exact t_f55_l2 H F a_1.v k_2 0 _ ⟨h0, h1, h4, h5⟩ h
end
def e55 (F : Nat) : Ent := ⟨55, da (fun (x : ((On (Int × Int)) × Int × Unit)) => w_markIntA2S F x.1 x.2.1) (fun (r : (Int × NL (Int × Int))) => (.tup [Enc.enc (r.1 : Int), encO (.at pinR []) (r.2 : NL (Int × Int))])), pinR, false, selF []⟩
theorem p55 {F : Nat} {x0 : (On (Int × Int))} {x1 : Int} {r : (Int × NL (Int × Int))} (h : w_markIntA2S F x0 x1 = some r) : (e55 F).den [Arg.arg x0, Enc.enc x1] = some (.tup [Enc.enc (r.1 : Int), encO (.at pinR []) (r.2 : NL (Int × Int))]) := da_put (f := fun (x : ((On (Int × Int)) × Int × Unit)) => w_markIntA2S F x.1 x.2.1) (t := fun (r : (Int × NL (Int × Int))) => (.tup [Enc.enc (r.1 : Int), encO (.at pinR []) (r.2 : NL (Int × Int))])) (x0, x1, ()) h
theorem o55 {D : Den} {σ : Sig} {F : Nat} (hF : Fits2 Try.prog D σ) (H : H55 D σ F) : (e55 F).Ok Try.prog := by
  refine ok_of (f := 55) (show unk 55 = 55 from rfl) (fun args r h => ?_) ⟨Try.f55, Try.func55, rfl, rfl⟩
  obtain ⟨⟨x0, x1, _⟩, y, rfl, hy, rfl⟩ := da_open h
  exact contractM_run hF (by kernel_rfl) Try.func55 rfl c55 (all_ok2 ok_encP rfl) (show 2 ≤ Try.f55.ntmps by decide) (by decide) (t55 H x0 x1 _ ⟨rfl, rfl⟩ hy)
/- loop.example/g01109/laws.markGraph -/
def A21_2 : AC := (AC.seq (AC.reg [] [(I.mk (some 9) none false (X.v (A.mov (O.t 1)))), (I.mk (some 4) none false (X.v (A.mov (O.t 9))))] []) AC.ret)
def A21_1 : AC := (AC.seq (AC.reg [] [(I.mk (some 5) none false (X.v (A.fld (O.t 2) 1 1))), (I.mk (some 6) none false (X.v (A.load Sh.p (O.t 5)))), (I.mk (some 7) none false (X.v (A.mov (O.t 1)))), (I.mk (some 8) none false (X.mark (O.k (V.fn 55 [] [])) [(O.t 6), (O.t 7)])), (I.mk (some 1) none false (X.v (A.mov (O.t 8))))] []) A21_2)
def A21 : AC := (AC.seq (AC.reg [.clr [2]] [(I.mk (some 2) none false (X.box (O.t 0))), (I.mk (some 4) none false (X.v (A.mov (O.k (V.int IntKind.i64 (Int.ofNat 0))))))] []) A21_1)
def an21 : List An := [{ id := 0, pre := [.clr [2]], ep := [], lin := [], sp := [] }, { id := 1, pre := [], ep := [], lin := [], sp := [3] }]
theorem c21 : cC Try.prog Try.f21.ntmps an21 (Try.f21.body.getD .skip) = some A21 := by kernel_rfl
structure H21 (D : Den) (σ : Sig) (F : Nat) : Prop where
  c55 : ∀ (x0 : (On (Int × Int))) (x1 : Int) r, w_markIntA2S F x0 x1 = some r → D 55 [Arg.arg x0, Enc.enc x1] = some (.tup [Enc.enc (r.1 : Int), encO (.at pinR []) (r.2 : NL (Int × Int))])
  g55 : σ 55 = some (pinR, false)
abbrev R21 (r : Int) : (Nat → V) → Prop := RM Try.prog [.tmp 4] (Enc.enc (r : Int)) .dead
section
variable {D : Den} {σ : Sig} {F : Nat} {r : Int}
def w_markGraph (F : Nat) (a_1 : (Og (Int × Int))) (k_2 : Int) : Option Int :=
  (w_markIntA2S F (On.mk a_1.v : (On (Int × Int))) k_2).bind fun r_3 =>
  some r_3.1
theorem t21 (H : H21 D σ F) (a_1 : (Og (Int × Int))) (k_2 : Int) (s : Nat → V) (hs : Facts [(0, (.agg [(.int .i64 a_1.a), (encO (.at pinR [1]) (a_1.v : NL (Int × Int)))])), (1, (.int .i64 k_2))] s) (h : w_markGraph F a_1 k_2 = some r) : Run D σ (R21 r) (.run A21 []) s := by
  unfold w_markGraph at h
  obtain ⟨h0, h1⟩ := hs
  refine .seq ?_
  refine run_reg ?_
  refine e_clr ?_
  refine e_end ?_
  refine g_box (.agg [(.int .i64 a_1.a), (encO (.at pinR [1]) (a_1.v : NL (Int × Int)))]) (rd_of (keep_clear (s := s) (pk := [2]) h0 rfl (map_agg (maps_cons rfl (maps_cons (map_encO (r := pinR) (p := [1]) rfl rfl) maps_nil)))) rfl) (gone_clear (s := s) (pk := [2]) (t := 2) rfl) rfl ?_
  refine g_v0 (.int .i64 0) rfl rfl ?_
  refine g_end ?_
  refine e_end ?_
  refine renew [(1, (.int .i64 k_2)), (2, (.ref (.bx 2) 0 [] (.agg [(.int .i64 a_1.a), (encO (.at pinR [1]) (a_1.v : NL (Int × Int)))]))), (4, (.int .i64 0))] ⟨(keep_clear (s := s) (pk := [2]) h1 rfl rfl), rfl, rfl⟩ ?_
  rintro s ⟨h1, h2, h4⟩
  refine .nsq ?_
  refine .seq ?_
  refine run_reg ?_
  refine e_end ?_
  refine g_v1 (t := 2) (u := (.ref (.bx 2) 0 [] (.agg [(.int .i64 a_1.a), (encO (.at pinR [1]) (a_1.v : NL (Int × Int)))]))) (.ref (.bx 2) 0 [1] (encO (.at pinR [1]) (a_1.v : NL (Int × Int)))) h2 rfl rfl ?_
  refine g_v (encO (.at pinR [1]) (a_1.v : NL (Int × Int))) (ev_loadN rfl beq_encO) ?_
  refine g_v1 (t := 1) (u := (.int .i64 k_2)) (.int .i64 k_2) h1 rfl rfl ?_
  obtain ⟨r_3, E_r_3, h⟩ := bind_some h
  refine g_mark (v := (encO (.at pinR [1]) (a_1.v : NL (Int × Int)))) rfl (canon_own (o := (a_1.v : NL (Int × Int))) rfl) (rdAll_cons (v := (.int .i64 k_2)) rfl rfl rdAll_nil) (H.c55 _ _ _ E_r_3) H.g55 rfl rfl (fun s_2 hm_2 => ?_)
  refine g_v1 (t := 8) (u := (.int .i64 r_3.1)) (.int .i64 r_3.1) rfl rfl rfl ?_
  refine g_end ?_
  refine e_end ?_
  refine renew [(1, (.int .i64 r_3.1)), (4, (.int .i64 0))] ⟨rfl, (show s_2 4 = (.int .i64 0) from hm_2 4 (.int .i64 0) (.int .i64 0) h4 (rem_map rfl rfl))⟩ ?_
  rintro s ⟨h1, h4⟩
  refine .nsq ?_
  refine .seq ?_
  refine run_reg ?_
  refine e_end ?_
  refine g_v1 (t := 1) (u := (.int .i64 r_3.1)) (.int .i64 r_3.1) h1 rfl rfl ?_
  refine g_v1 (t := 9) (u := (.int .i64 r_3.1)) (.int .i64 r_3.1) rfl rfl rfl ?_
  refine g_end ?_
  refine e_end ?_
  refine renew [(4, (.int .i64 r_3.1))] rfl ?_
  rintro s h4
  refine .nsq ?_
  refine .ret ?_
  have hr := Option.some.inj h
  subst hr
  exact rmD (res_tmp h4)
end
def e21 (F : Nat) : Ent := ⟨21, da (fun (x : ((Og (Int × Int)) × Int × Unit)) => w_markGraph F x.1 x.2.1) (fun (r : Int) => (.tup [Enc.enc (r : Int), .dead])), pinR, false, selF []⟩
theorem p21 {F : Nat} {x0 : (Og (Int × Int))} {x1 : Int} {r : Int} (h : w_markGraph F x0 x1 = some r) : (e21 F).den [Arg.arg x0, Enc.enc x1] = some (.tup [Enc.enc (r : Int), .dead]) := da_put (f := fun (x : ((Og (Int × Int)) × Int × Unit)) => w_markGraph F x.1 x.2.1) (t := fun (r : Int) => (.tup [Enc.enc (r : Int), .dead])) (x0, x1, ()) h
theorem o21 {D : Den} {σ : Sig} {F : Nat} (hF : Fits2 Try.prog D σ) (H : H21 D σ F) : (e21 F).Ok Try.prog := by
  refine ok_of (f := 21) (show unk 21 = 21 from rfl) (fun args r h => ?_) ⟨Try.f21, Try.func21, rfl, rfl⟩
  obtain ⟨⟨x0, x1, _⟩, y, rfl, hy, rfl⟩ := da_open h
  exact contractM_run hF (by kernel_rfl) Try.func21 rfl c21 (all_ok2 rfl rfl) (show 2 ≤ Try.f21.ntmps by decide) (by decide) (t21 H x0 x1 _ ⟨rfl, rfl⟩ hy)
/- loop.example/g01109/laws.toIntS -/
def A31o_2 : AC := (AC.cond (O.t 11) AC.skip (AC.exit 0))
def A31o_4 : AC := (AC.reg [] [(I.mk (some 12) none false (X.v (A.mov (O.t 4)))), (I.mk (some 13) none false (X.v (A.bin BinOp.add (O.t 12) (O.k (V.int IntKind.i64 (Int.ofNat 1)))))), (I.mk (some 4) none false (X.v (A.mov (O.t 13))))] [])
def A31o_3 : AC := (AC.seq (AC.block 1 (AC.reg [] [(I.mk (some 14) none false (X.v (A.mov (O.t 3)))), (I.mk (some 15) none false (X.v (A.mov (O.t 4)))), (I.mk (some 16) none false (X.v (A.mov (O.t 0)))), (I.mk (some 17) none false (X.v (A.mov (O.t 4)))), (I.mk (some 18) none false (X.v (A.idx (O.t 16) (O.t 17) 1))), (I.mk (some 19) none false (X.v (A.load Sh.s (O.t 18)))), (I.mk (some 20) none false (X.v (A.idx (O.t 14) (O.t 15) 1))), (I.mk none none false (X.store Sh.s (O.t 20) (O.t 19)))] [])) A31o_4)
def A31o_1 : AC := (AC.seq (AC.seq (AC.reg [] [(I.mk (some 8) none false (X.v (A.mov (O.t 4)))), (I.mk (some 9) none false (X.v (A.mov (O.t 0)))), (I.mk (some 10) none false (X.v (A.len (O.t 9)))), (I.mk (some 11) none false (X.v (A.bin BinOp.lss (O.t 8) (O.t 10))))] []) A31o_2) A31o_3)
def A31o_5 : AC := (AC.seq (AC.reg [] [(I.mk (some 21) none false (X.v (A.mov (O.t 3)))), (I.mk (some 2) none false (X.v (A.mov (O.t 21))))] [.home 3 2]) AC.ret)
def A31o_8 : AC := (AC.block 0 (AC.loop A31o_1))
def A31o_7 : AC := (AC.seq (AC.seq (AC.reg [] [(I.mk (some 4) none false (X.v (A.mov (O.k (V.int IntKind.i64 (Int.ofNat 0))))))] []) A31o_8) A31o_5)
def A31o_6 : AC := (AC.seq (AC.reg [.clr [7]] [(I.mk (some 5) none false (X.v (A.mov (O.t 0)))), (I.mk (some 6) none false (X.v (A.len (O.t 5)))), (I.mk (some 7) none false (X.mk (O.t 6) (V.int IntKind.i64 (Int.ofNat 0)))), (I.mk (some 3) none false (X.v (A.mov (O.t 7))))] [.home 7 3]) A31o_7)
def A31o : AC := (AC.seq (AC.reg [] [(I.mk (some 2) none false (X.v (A.mov (O.k (V.sl Tok.nl Sh.s 0 [])))))] []) A31o_6)
def an31o : List An := [{ id := 1, pre := [.clr [7]], ep := [.home 7 3], lin := [], sp := [] }, { id := 6, pre := [], ep := [.home 3 2], lin := [], sp := [] }]
theorem c31o : cC Try.prog Try.f31.ntmps an31o (Try.f31.body.getD .skip) = some A31o := by kernel_rfl
structure H31o (D : Den) (σ : Sig) (F : Nat) : Prop where
  mk ::
abbrev R31o (r : (NL Int)) : (Nat → V) → Prop := RR Try.prog [.tmp 2] 1 false (encO .sh (r : NL Int))
section
variable {D : Den} {σ : Sig} {F : Nat} {r : (NL Int)}
def w_toIntS_o_l1 (F : Nat) (a_1 : (List Int))  : Nat → (List Int) → Int → Option (NL Int)
  | 0, _, _ => none
  | k + 1, out_5, i_6 =>
    bif decide (i_6 < (a_1.length : Int)) then
      (idx a_1 i_6).bind fun e_9 =>
      (idx out_5 i_6).bind fun e_10 =>
      (w_toIntS_o_l1 F a_1 k) (out_5.set i_6.toNat e_9) (w64 (i_6 + 1))
    else
      some (.of out_5)
theorem t_f31o_l1 (H : H31o D σ F) (a_1 : (List Int))  : ∀ (k : Nat) (out_5 : (List Int)) (i_6 : Int) (s : Nat → V), Facts [(0, (Enc.enc (a_1 : List Int))), (2, (.sl .nl (Enc.shp Int) 0 [])), (3, (encO (.at 3 []) (.of (out_5 : List Int)))), (4, (.int .i64 i_6))] s → w_toIntS_o_l1 F a_1 k out_5 i_6 = some r → Run D σ (R31o r) (.run A31o_1 [.lp A31o_1, .bk 0, .sq A31o_5]) s := by
  intro k
  induction k with
  | zero => intro out_5 i_6 s _ h; exact nomatch (h : (none : Option _) = some r)
  | succ k ih =>
    intro out_5 i_6 s hs h
    rw [w_toIntS_o_l1] at h
    obtain ⟨h0, h2, h3, h4⟩ := hs
    refine .seq ?_
    refine .seq ?_
    refine run_reg ?_
    refine e_end ?_
    refine g_v1 (t := 4) (u := (.int .i64 i_6)) (.int .i64 i_6) h4 rfl rfl ?_
    refine g_v1 (t := 0) (u := (Enc.enc (a_1 : List Int))) (Enc.enc (a_1 : List Int)) h0 rfl rfl ?_
    refine g_v (.int .i64 (a_1.length : Int)) (ev_len (xs := a_1) rfl) ?_
    refine g_v2 (t1 := 8) (t2 := 10) (u1 := (.int .i64 i_6)) (u2 := (.int .i64 (a_1.length : Int))) (.bool (decide (i_6 < (a_1.length : Int)))) rfl rfl rfl rfl ?_
    refine g_end ?_
    refine e_end ?_
    refine renew [(0, (Enc.enc (a_1 : List Int))), (2, (.sl .nl (Enc.shp Int) 0 [])), (3, (encO (.at 3 []) (.of (out_5 : List Int)))), (4, (.int .i64 i_6)), (11, (.bool (decide (i_6 < (a_1.length : Int)))))] ⟨h0, h2, h3, h4, rfl⟩ ?_
    rintro s ⟨h0, h2, h3, h4, h11⟩
    refine .nsq ?_
    refine run_cond (t := decide (i_6 < (a_1.length : Int))) h11 h (fun h => ?_) (fun h => ?_)
    · refine .skip ?_
      refine .nsq ?_
      refine .seq ?_
      refine .block ?_
      refine run_reg ?_
      refine e_end ?_
      refine g_v1 (t := 3) (u := (encO (.at 3 []) (.of (out_5 : List Int)))) (encO (.at 3 []) (.of (out_5 : List Int))) h3 rfl rfl ?_
      refine g_v1 (t := 4) (u := (.int .i64 i_6)) (.int .i64 i_6) h4 rfl rfl ?_
      refine g_v1 (t := 0) (u := (Enc.enc (a_1 : List Int))) (Enc.enc (a_1 : List Int)) h0 rfl rfl ?_
      refine g_v1 (t := 4) (u := (.int .i64 i_6)) (.int .i64 i_6) h4 rfl rfl ?_
      obtain ⟨e_9, E_e_9, h⟩ := bind_some h
      refine g_v (.ref .sh 0 [] (.int .i64 e_9)) (ev_idx (t := .sh) (lo := 0) (xs := a_1) rfl rfl E_e_9 rfl rfl) ?_
      refine g_v1 (t := 18) (u := (.ref .sh 0 [] (.int .i64 e_9))) (.int .i64 e_9) rfl rfl rfl ?_
      obtain ⟨e_10, E_e_10, h⟩ := bind_some h
      refine g_v (.ref (.at 3 []) i_6.toNat [] (.int .i64 e_10)) (ev_idxO (o := (.of out_5)) rfl rfl E_e_10 rfl) ?_
      refine g_store (.int .i64 e_9) (rd_of rfl rfl) (rd_of rfl rfl) (by refine ⟨by decide, by decide, rfl, rfl, rfl, ?_⟩; first | rfl | simp [V.toks, V.tokss, Enc.toks_enc]) ?_
      refine g_end ?_
      refine e_end ?_
      refine renew [(0, (Enc.enc (a_1 : List Int))), (2, (.sl .nl (Enc.shp Int) 0 [])), (3, (encO (.at 3 []) (.of (out_5.set i_6.toNat e_9 : List Int)))), (4, (.int .i64 i_6))] ⟨(keep_mut h0 (Enc.mut_enc _ _ _ _ (a_1 : List Int))), (keep_mut h2 rfl), (keep_mut h3 mut_own), (keep_mut h4 rfl)⟩ ?_
      rintro s ⟨h0, h2, h3, h4⟩
      refine .nbk ?_
      refine .nsq ?_
      refine run_reg ?_
      refine e_end ?_
      refine g_v1 (t := 4) (u := (.int .i64 i_6)) (.int .i64 i_6) h4 rfl rfl ?_
      refine g_v1 (t := 12) (u := (.int .i64 i_6)) (.int .i64 (w64 (i_6 + 1))) rfl rfl rfl ?_
      refine g_v1 (t := 13) (u := (.int .i64 (w64 (i_6 + 1)))) (.int .i64 (w64 (i_6 + 1))) rfl rfl rfl ?_
      refine g_end ?_
      refine e_end ?_
      refine renew [(0, (Enc.enc (a_1 : List Int))), (2, (.sl .nl (Enc.shp Int) 0 [])), (3, (encO (.at 3 []) (.of (out_5.set i_6.toNat e_9 : List Int)))), (4, (.int .i64 (w64 (i_6 + 1))))] ⟨h0, h2, h3, rfl⟩ ?_
      rintro s ⟨h0, h2, h3, h4⟩
      refine .nlp ?_
      exact ih (out_5.set i_6.toNat e_9) (w64 (i_6 + 1)) _ ⟨h0, h2, h3, h4⟩ h
    · refine .exit ?_
      refine .esq ?_
      refine .elp ?_
      refine .ebk ?_
      refine .nsq ?_
      refine .seq ?_
      refine run_reg ?_
      refine e_end ?_
      refine g_v1 (t := 3) (u := (encO (.at 3 []) (.of (out_5 : List Int)))) (encO (.at 3 []) (.of (out_5 : List Int))) h3 rfl rfl ?_
      refine g_v1 (t := 21) (u := (encO (.at 3 []) (.of (out_5 : List Int)))) (encO (.at 3 []) (.of (out_5 : List Int))) rfl rfl rfl ?_
      refine g_end ?_
      refine e_home (r := 3) (x := 2) (v := (encO (.at 3 []) (.of (out_5 : List Int)))) (by exact rfl) rfl (fun s_3 hg_3 => ?_)
      refine e_end ?_
      refine renew [(2, (encO (.at 2 []) (.of (out_5 : List Int))))] (hg_3 2 (encO (.at 3 []) (.of (out_5 : List Int))) (encO (.at 2 []) (.of (out_5 : List Int))) rfl (map_encO (r := 3) (p := []) rfl rfl)) ?_
      rintro s h2
      refine .nsq ?_
      refine .ret ?_
      have hr := Option.some.inj h
      subst hr
      exact rrA (res_tmp h2) (fin_retO (finO_own (o := ((.of out_5) : NL Int))) rfl (mine_own rfl))
def w_toIntS_o (F : Nat) (a_1 : (List Int)) : Option (NL Int) :=
  (mkN (a_1.length : Int) 0).bind fun mk_2 =>
  w_toIntS_o_l1 F a_1 F mk_2 0
theorem t31o (H : H31o D σ F) (a_1 : (List Int)) (s : Nat → V) (hs : Facts [(0, (Enc.enc (a_1 : List Int)))] s) (h : w_toIntS_o F a_1 = some r) : Run D σ (R31o r) (.run A31o []) s := by
  unfold w_toIntS_o at h
  have h0 := hs
  refine .seq ?_
  refine run_reg ?_
  refine e_end ?_
  refine g_v0 (.sl .nl (Enc.shp Int) 0 []) rfl rfl ?_
  refine g_end ?_
  refine e_end ?_
  refine renew [(0, (Enc.enc (a_1 : List Int))), (2, (.sl .nl (Enc.shp Int) 0 []))] ⟨h0, rfl⟩ ?_
  rintro s ⟨h0, h2⟩
  refine .nsq ?_
  refine .seq ?_
  refine run_reg ?_
  refine e_clr ?_
  refine e_end ?_
  refine g_v1 (t := 0) (u := (Enc.enc (a_1 : List Int))) (Enc.enc (a_1 : List Int)) (keep_clear (s := s) (pk := [7]) h0 rfl (Enc.map_enc _ (a_1 : List Int))) rfl rfl ?_
  refine g_v (.int .i64 (a_1.length : Int)) (ev_len (xs := a_1) rfl) ?_
  obtain ⟨mk_2, E_mk_2, h⟩ := bind_some h
  refine g_mk (0 : Int) rfl rfl (gone_clear (s := s) (pk := [7]) (t := 7) rfl) E_mk_2 ?_
  refine g_v1 (t := 7) (u := (encO (.at 7 []) (.of (mk_2 : List Int)))) (encO (.at 7 []) (.of (mk_2 : List Int))) rfl rfl rfl ?_
  refine g_end ?_
  refine e_home (r := 7) (x := 3) (v := (encO (.at 7 []) (.of (mk_2 : List Int)))) (by exact rfl) rfl (fun s_2 hg_2 => ?_)
  refine e_end ?_
  refine renew [(0, (Enc.enc (a_1 : List Int))), (2, (.sl .nl (Enc.shp Int) 0 [])), (3, (encO (.at 3 []) (.of (mk_2 : List Int))))] ⟨(hg_2 0 (Enc.enc (a_1 : List Int)) (Enc.enc (a_1 : List Int)) (keep_clear (s := s) (pk := [7]) h0 rfl (Enc.map_enc _ (a_1 : List Int))) (Enc.map_enc _ (a_1 : List Int))), (hg_2 2 (.sl .nl (Enc.shp Int) 0 []) (.sl .nl (Enc.shp Int) 0 []) (keep_clear (s := s) (pk := [7]) h2 rfl rfl) rfl), (hg_2 3 (encO (.at 7 []) (.of (mk_2 : List Int))) (encO (.at 3 []) (.of (mk_2 : List Int))) rfl (map_encO (r := 7) (p := []) rfl rfl))⟩ ?_
  rintro s ⟨h0, h2, h3⟩
  refine .nsq ?_
  refine .seq ?_
  refine .seq ?_
  refine run_reg ?_
  refine e_end ?_
  refine g_v0 (.int .i64 0) rfl rfl ?_
  refine g_end ?_
  refine e_end ?_
  refine renew [(0, (Enc.enc (a_1 : List Int))), (2, (.sl .nl (Enc.shp Int) 0 [])), (3, (encO (.at 3 []) (.of (mk_2 : List Int)))), (4, (.int .i64 0))] ⟨h0, h2, h3, rfl⟩ ?_
  rintro s ⟨h0, h2, h3, h4⟩
  refine .nsq ?_
  refine .block ?_
  refine .loop ?_
  exact t_f31o_l1 H a_1 F mk_2 0 _ ⟨h0, h2, h3, h4⟩ h
end
def e31o (F : Nat) : Ent := ⟨1000000031, da (fun (x : ((List Int) × Unit)) => w_toIntS_o F x.1) (fun (r : (NL Int)) => (encO .sh (r : NL Int))), 1, false, selF []⟩
theorem p31o {F : Nat} {x0 : (List Int)} {r : (NL Int)} (h : w_toIntS_o F x0 = some r) : (e31o F).den [Enc.enc x0] = some (encO .sh (r : NL Int)) := da_put (f := fun (x : ((List Int) × Unit)) => w_toIntS_o F x.1) (t := fun (r : (NL Int)) => (encO .sh (r : NL Int))) (x0, ()) h
theorem o31o {D : Den} {σ : Sig} {F : Nat} (hF : Fits2 Try.prog D σ) (H : H31o D σ F) : (e31o F).Ok Try.prog := by
  refine ok_of (f := 31) (show unk 1000000031 = 31 from rfl) (fun args r h => ?_) ⟨Try.f31, Try.func31, rfl, rfl⟩
  obtain ⟨⟨x0, _⟩, y, rfl, hy, rfl⟩ := da_open h
  exact contract_run hF (by kernel_rfl) Try.func31 rfl c31o (show 1 ≤ Try.f31.ntmps by decide) (t31o H x0 _ rfl hy)
/- loop.example/g01109/laws.markIntS -/
def A22_2 : AC := (AC.cond (O.t 9) AC.skip (AC.exit 0))
def A22_4 : AC := (AC.reg [] [(I.mk (some 16) none false (X.v (A.mov (O.t 1)))), (I.mk (some 17) none false (X.v (A.bin BinOp.add (O.t 16) (O.k (V.int IntKind.i64 (Int.ofNat 1)))))), (I.mk (some 1) none false (X.v (A.mov (O.t 17))))] [])
def A22_5 : AC := (AC.reg [] [(I.mk (some 10) none false (X.v (A.mov (O.t 5)))), (I.mk (some 11) none false (X.v (A.bin BinOp.add (O.t 10) (O.k (V.int IntKind.i64 (Int.ofNat 1)))))), (I.mk (some 5) none false (X.v (A.mov (O.t 11))))] [])
def A22_3 : AC := (AC.seq (AC.block 1 (AC.seq (AC.reg [] [(I.mk (some 12) none false (X.v (A.mov (O.t 0)))), (I.mk (some 13) none false (X.v (A.mov (O.t 5)))), (I.mk (some 14) none false (X.v (A.mov (O.t 1)))), (I.mk (some 15) none false (X.v (A.idx (O.t 12) (O.t 13) 1))), (I.mk none none false (X.store Sh.s (O.t 15) (O.t 14)))] []) A22_4)) A22_5)
def A22_1 : AC := (AC.seq (AC.seq (AC.reg [] [(I.mk (some 6) none false (X.v (A.mov (O.t 5)))), (I.mk (some 7) none false (X.v (A.mov (O.t 0)))), (I.mk (some 8) none false (X.v (A.len (O.t 7)))), (I.mk (some 9) none false (X.v (A.bin BinOp.lss (O.t 6) (O.t 8))))] []) A22_2) A22_3)
def A22_6 : AC := (AC.seq (AC.reg [] [(I.mk (some 18) none false (X.v (A.mov (O.t 1)))), (I.mk (some 4) none false (X.v (A.mov (O.t 18))))] []) AC.ret)
def A22_8 : AC := (AC.block 0 (AC.loop A22_1))
def A22_7 : AC := (AC.seq (AC.seq (AC.reg [] [(I.mk (some 5) none false (X.v (A.mov (O.k (V.int IntKind.i64 (Int.ofNat 0))))))] []) A22_8) A22_6)
def A22 : AC := (AC.seq (AC.reg [] [(I.mk (some 4) none false (X.v (A.mov (O.k (V.int IntKind.i64 (Int.ofNat 0))))))] []) A22_7)
def an22 : List An := []
theorem c22 : cC Try.prog Try.f22.ntmps an22 (Try.f22.body.getD .skip) = some A22 := by kernel_rfl
structure H22 (D : Den) (σ : Sig) (F : Nat) : Prop where
  mk ::
abbrev R22 (r : (Int × NL Int)) : (Nat → V) → Prop := RM Try.prog [.tmp 4] (Enc.enc (r.1 : Int)) (encO (.at pinR []) (r.2 : NL Int))
section
variable {D : Den} {σ : Sig} {F : Nat} {r : (Int × NL Int)}
def w_markIntS_l1 (F : Nat)   : Nat → (NL Int) → Int → Int → Option (Int × NL Int)
  | 0, _, _, _ => none
  | k + 1, a_4, k_5, i_6 =>
    bif decide (i_6 < (a_4.list.length : Int)) then
      (idx a_4.list i_6).bind fun e_8 =>
      (w_markIntS_l1 F k) (NL.set a_4 i_6.toNat k_5) (w64 (k_5 + 1)) (w64 (i_6 + 1))
    else
      some (k_5, a_4)
theorem t_f22_l1 (H : H22 D σ F)   : ∀ (k : Nat) (a_4 : (NL Int)) (k_5 : Int) (i_6 : Int) (s : Nat → V), Facts [(0, (encO (.at pinR []) (a_4 : NL Int))), (1, (.int .i64 k_5)), (4, (.int .i64 0)), (5, (.int .i64 i_6))] s → w_markIntS_l1 F k a_4 k_5 i_6 = some r → Run D σ (R22 r) (.run A22_1 [.lp A22_1, .bk 0, .sq A22_6]) s := by
  intro k
  induction k with
  | zero => intro a_4 k_5 i_6 s _ h; exact nomatch (h : (none : Option _) = some r)
  | succ k ih =>
    intro a_4 k_5 i_6 s hs h
    rw [w_markIntS_l1] at h
    obtain ⟨h0, h1, h4, h5⟩ := hs
    refine .seq ?_
    refine .seq ?_
    refine run_reg ?_
    refine e_end ?_
    refine g_v1 (t := 5) (u := (.int .i64 i_6)) (.int .i64 i_6) h5 rfl rfl ?_
    refine g_v (encO (.at pinR []) (a_4 : NL Int)) (ev_mov h0 ok_encO) ?_
    refine g_v (.int .i64 (a_4.list.length : Int)) (ev_lenO (o := a_4) rfl) ?_
    refine g_v2 (t1 := 6) (t2 := 8) (u1 := (.int .i64 i_6)) (u2 := (.int .i64 (a_4.list.length : Int))) (.bool (decide (i_6 < (a_4.list.length : Int)))) rfl rfl rfl rfl ?_
    refine g_end ?_
    refine e_end ?_
    refine renew [(0, (encO (.at pinR []) (a_4 : NL Int))), (1, (.int .i64 k_5)), (4, (.int .i64 0)), (5, (.int .i64 i_6)), (9, (.bool (decide (i_6 < (a_4.list.length : Int)))))] ⟨h0, h1, h4, h5, rfl⟩ ?_
    rintro s ⟨h0, h1, h4, h5, h9⟩
    refine .nsq ?_
    refine run_cond (t := decide (i_6 < (a_4.list.length : Int))) h9 h (fun h => ?_) (fun h => ?_)
    · refine .skip ?_
      refine .nsq ?_
      refine .seq ?_
      refine .block ?_
      refine .seq ?_
      refine run_reg ?_
      refine e_end ?_
      refine g_v (encO (.at pinR []) (a_4 : NL Int)) (ev_mov h0 ok_encO) ?_
      refine g_v1 (t := 5) (u := (.int .i64 i_6)) (.int .i64 i_6) h5 rfl rfl ?_
      refine g_v1 (t := 1) (u := (.int .i64 k_5)) (.int .i64 k_5) h1 rfl rfl ?_
      obtain ⟨e_8, E_e_8, h⟩ := bind_some h
      refine g_v (.ref (.at pinR []) i_6.toNat [] (.int .i64 e_8)) (ev_idxO (o := a_4) rfl rfl E_e_8 rfl) ?_
      refine g_store (.int .i64 k_5) (rd_of rfl rfl) (rd_of rfl rfl) (by refine ⟨by decide, by decide, rfl, rfl, rfl, ?_⟩; first | rfl | simp [V.toks, V.tokss, Enc.toks_enc]) ?_
      refine g_end ?_
      refine e_end ?_
      refine renew [(0, (encO (.at pinR []) ((NL.set a_4 i_6.toNat k_5) : NL Int))), (1, (.int .i64 k_5)), (4, (.int .i64 0)), (5, (.int .i64 i_6))] ⟨(keep_mut h0 (mut_ownN (α := Int) (u := k_5) (i := i_6.toNat) (o := a_4))), (keep_mut h1 rfl), (keep_mut h4 rfl), (keep_mut h5 rfl)⟩ ?_
      rintro s ⟨h0, h1, h4, h5⟩
      refine .nsq ?_
      refine run_reg ?_
      refine e_end ?_
      refine g_v1 (t := 1) (u := (.int .i64 k_5)) (.int .i64 k_5) h1 rfl rfl ?_
      refine g_v1 (t := 16) (u := (.int .i64 k_5)) (.int .i64 (w64 (k_5 + 1))) rfl rfl rfl ?_
      refine g_v1 (t := 17) (u := (.int .i64 (w64 (k_5 + 1)))) (.int .i64 (w64 (k_5 + 1))) rfl rfl rfl ?_
      refine g_end ?_
      refine e_end ?_
      refine renew [(0, (encO (.at pinR []) ((NL.set a_4 i_6.toNat k_5) : NL Int))), (1, (.int .i64 (w64 (k_5 + 1)))), (4, (.int .i64 0)), (5, (.int .i64 i_6))] ⟨h0, rfl, h4, h5⟩ ?_
      rintro s ⟨h0, h1, h4, h5⟩
      refine .nbk ?_
      refine .nsq ?_
      refine run_reg ?_
      refine e_end ?_
      refine g_v1 (t := 5) (u := (.int .i64 i_6)) (.int .i64 i_6) h5 rfl rfl ?_
      refine g_v1 (t := 10) (u := (.int .i64 i_6)) (.int .i64 (w64 (i_6 + 1))) rfl rfl rfl ?_
      refine g_v1 (t := 11) (u := (.int .i64 (w64 (i_6 + 1)))) (.int .i64 (w64 (i_6 + 1))) rfl rfl rfl ?_
      refine g_end ?_
      refine e_end ?_
      refine renew [(0, (encO (.at pinR []) ((NL.set a_4 i_6.toNat k_5) : NL Int))), (1, (.int .i64 (w64 (k_5 + 1)))), (4, (.int .i64 0)), (5, (.int .i64 (w64 (i_6 + 1))))] ⟨h0, h1, h4, rfl⟩ ?_
      rintro s ⟨h0, h1, h4, h5⟩
      refine .nlp ?_
      exact ih (NL.set a_4 i_6.toNat k_5) (w64 (k_5 + 1)) (w64 (i_6 + 1)) _ ⟨h0, h1, h4, h5⟩ h
    · refine .exit ?_
      refine .esq ?_
      refine .elp ?_
      refine .ebk ?_
      refine .nsq ?_
      refine .seq ?_
      refine run_reg ?_
      refine e_end ?_
      refine g_v1 (t := 1) (u := (.int .i64 k_5)) (.int .i64 k_5) h1 rfl rfl ?_
      refine g_v1 (t := 18) (u := (.int .i64 k_5)) (.int .i64 k_5) rfl rfl rfl ?_
      refine g_end ?_
      refine e_end ?_
      refine renew [(0, (encO (.at pinR []) (a_4 : NL Int))), (4, (.int .i64 k_5))] ⟨h0, rfl⟩ ?_
      rintro s ⟨h0, h4⟩
      refine .nsq ?_
      refine .ret ?_
      have hr := Option.some.inj h
      subst hr
      exact rmA (res_tmp h4) h0
def w_markIntS (F : Nat) (a_1 : (On Int)) (k_2 : Int) : Option (Int × NL Int) :=
  w_markIntS_l1 F F a_1.v k_2 0
theorem t22 (H : H22 D σ F) (a_1 : (On Int)) (k_2 : Int) (s : Nat → V) (hs : Facts [(0, (encO (.at pinR []) (a_1.v : NL Int))), (1, (.int .i64 k_2))] s) (h : w_markIntS F a_1 k_2 = some r) : Run D σ (R22 r) (.run A22 []) s := by
  unfold w_markIntS at h
  obtain ⟨h0, h1⟩ := hs
  refine .seq ?_
  refine run_reg ?_
  refine e_end ?_
  refine g_v0 (.int .i64 0) rfl rfl ?_
  refine g_end ?_
  refine e_end ?_
  refine renew [(0, (encO (.at pinR []) (a_1.v : NL Int))), (1, (.int .i64 k_2)), (4, (.int .i64 0))] ⟨h0, h1, rfl⟩ ?_
  rintro s ⟨h0, h1, h4⟩
  refine .nsq ?_
  refine .seq ?_
  refine .seq ?_
  refine run_reg ?_
  refine e_end ?_
  refine g_v0 (.int .i64 0) rfl rfl ?_
  refine g_end ?_
  refine e_end ?_
  refine renew [(0, (encO (.at pinR []) (a_1.v : NL Int))), (1, (.int .i64 k_2)), (4, (.int .i64 0)), (5, (.int .i64 0))] ⟨h0, h1, h4, rfl⟩ ?_
  rintro s ⟨h0, h1, h4, h5⟩
  refine .nsq ?_
  refine .block ?_
  refine .loop ?_
  exact t_f22_l1 H F a_1.v k_2 0 _ ⟨h0, h1, h4, h5⟩ h
end
def e22 (F : Nat) : Ent := ⟨22, da (fun (x : ((On Int) × Int × Unit)) => w_markIntS F x.1 x.2.1) (fun (r : (Int × NL Int)) => (.tup [Enc.enc (r.1 : Int), encO (.at pinR []) (r.2 : NL Int)])), pinR, false, selF []⟩
theorem p22 {F : Nat} {x0 : (On Int)} {x1 : Int} {r : (Int × NL Int)} (h : w_markIntS F x0 x1 = some r) : (e22 F).den [Arg.arg x0, Enc.enc x1] = some (.tup [Enc.enc (r.1 : Int), encO (.at pinR []) (r.2 : NL Int)]) := da_put (f := fun (x : ((On Int) × Int × Unit)) => w_markIntS F x.1 x.2.1) (t := fun (r : (Int × NL Int)) => (.tup [Enc.enc (r.1 : Int), encO (.at pinR []) (r.2 : NL Int)])) (x0, x1, ()) h
theorem o22 {D : Den} {σ : Sig} {F : Nat} (hF : Fits2 Try.prog D σ) (H : H22 D σ F) : (e22 F).Ok Try.prog := by
  refine ok_of (f := 22) (show unk 22 = 22 from rfl) (fun args r h => ?_) ⟨Try.f22, Try.func22, rfl, rfl⟩
  obtain ⟨⟨x0, x1, _⟩, y, rfl, hy, rfl⟩ := da_open h
  exact contractM_run hF (by kernel_rfl) Try.func22 rfl c22 (all_ok2 ok_encP rfl) (show 2 ≤ Try.f22.ntmps by decide) (by decide) (t22 H x0 x1 _ ⟨rfl, rfl⟩ hy)
/- loop.example/g01109/laws.heldIntS -/
def A23_2 : AC := (AC.cond (O.t 9) AC.skip (AC.exit 0))
def A23_4 : AC := (AC.cond (O.t 17) (AC.seq (AC.reg [] [(I.mk (some 4) none false (X.v (A.mov (O.k (V.int IntKind.i64 (Int.negSucc 0))))))] []) AC.ret) AC.skip)
def A23_5 : AC := (AC.reg [] [(I.mk (some 18) none false (X.v (A.mov (O.t 1)))), (I.mk (some 19) none false (X.v (A.bin BinOp.add (O.t 18) (O.k (V.int IntKind.i64 (Int.ofNat 1)))))), (I.mk (some 1) none false (X.v (A.mov (O.t 19))))] [])
def A23_6 : AC := (AC.reg [] [(I.mk (some 10) none false (X.v (A.mov (O.t 5)))), (I.mk (some 11) none false (X.v (A.bin BinOp.add (O.t 10) (O.k (V.int IntKind.i64 (Int.ofNat 1)))))), (I.mk (some 5) none false (X.v (A.mov (O.t 11))))] [])
def A23_3 : AC := (AC.seq (AC.block 1 (AC.seq (AC.seq (AC.reg [] [(I.mk (some 12) none false (X.v (A.mov (O.t 0)))), (I.mk (some 13) none false (X.v (A.mov (O.t 5)))), (I.mk (some 14) none false (X.v (A.idx (O.t 12) (O.t 13) 1))), (I.mk (some 15) none false (X.v (A.load Sh.s (O.t 14)))), (I.mk (some 16) none false (X.v (A.mov (O.t 1)))), (I.mk (some 17) none false (X.v (A.bin BinOp.neq (O.t 15) (O.t 16))))] []) A23_4) A23_5)) A23_6)
def A23_1 : AC := (AC.seq (AC.seq (AC.reg [] [(I.mk (some 6) none false (X.v (A.mov (O.t 5)))), (I.mk (some 7) none false (X.v (A.mov (O.t 0)))), (I.mk (some 8) none false (X.v (A.len (O.t 7)))), (I.mk (some 9) none false (X.v (A.bin BinOp.lss (O.t 6) (O.t 8))))] []) A23_2) A23_3)
def A23_7 : AC := (AC.seq (AC.reg [] [(I.mk (some 20) none false (X.v (A.mov (O.t 1)))), (I.mk (some 4) none false (X.v (A.mov (O.t 20))))] []) AC.ret)
def A23_9 : AC := (AC.block 0 (AC.loop A23_1))
def A23_8 : AC := (AC.seq (AC.seq (AC.reg [] [(I.mk (some 5) none false (X.v (A.mov (O.k (V.int IntKind.i64 (Int.ofNat 0))))))] []) A23_9) A23_7)
def A23 : AC := (AC.seq (AC.reg [] [(I.mk (some 4) none false (X.v (A.mov (O.k (V.int IntKind.i64 (Int.ofNat 0))))))] []) A23_8)
def an23 : List An := []
theorem c23 : cC Try.prog Try.f23.ntmps an23 (Try.f23.body.getD .skip) = some A23 := by kernel_rfl
structure H23 (D : Den) (σ : Sig) (F : Nat) : Prop where
  mk ::
abbrev R23 (r : Int) : (Nat → V) → Prop := RR Try.prog [.tmp 4] 0 false (Enc.enc (r : Int))
section
variable {D : Den} {σ : Sig} {F : Nat} {r : Int}
def w_heldIntS_l1 (F : Nat) (a_1 : (List Int))  : Nat → Int → Int → Option Int
  | 0, _, _ => none
  | k + 1, k_4, i_5 =>
    bif decide (i_5 < (a_1.length : Int)) then
      (idx a_1 i_5).bind fun e_7 =>
      bif (e_7 != k_4) then
        some (-1)
      else
        (w_heldIntS_l1 F a_1 k) (w64 (k_4 + 1)) (w64 (i_5 + 1))
    else
      some k_4
theorem t_f23_l1 (H : H23 D σ F) (a_1 : (List Int))  : ∀ (k : Nat) (k_4 : Int) (i_5 : Int) (s : Nat → V), Facts [(0, (Enc.enc (a_1 : List Int))), (1, (.int .i64 k_4)), (4, (.int .i64 0)), (5, (.int .i64 i_5))] s → w_heldIntS_l1 F a_1 k k_4 i_5 = some r → Run D σ (R23 r) (.run A23_1 [.lp A23_1, .bk 0, .sq A23_7]) s := by
  intro k
  induction k with
  | zero => intro k_4 i_5 s _ h; exact nomatch (h : (none : Option _) = some r)
  | succ k ih =>
    intro k_4 i_5 s hs h
    rw [w_heldIntS_l1] at h
    obtain ⟨h0, h1, h4, h5⟩ := hs
    refine .seq ?_
    refine .seq ?_
    refine run_reg ?_
    refine e_end ?_
    refine g_v1 (t := 5) (u := (.int .i64 i_5)) (.int .i64 i_5) h5 rfl rfl ?_
    refine g_v1 (t := 0) (u := (Enc.enc (a_1 : List Int))) (Enc.enc (a_1 : List Int)) h0 rfl rfl ?_
    refine g_v (.int .i64 (a_1.length : Int)) (ev_len (xs := a_1) rfl) ?_
    refine g_v2 (t1 := 6) (t2 := 8) (u1 := (.int .i64 i_5)) (u2 := (.int .i64 (a_1.length : Int))) (.bool (decide (i_5 < (a_1.length : Int)))) rfl rfl rfl rfl ?_
    refine g_end ?_
    refine e_end ?_
    refine renew [(0, (Enc.enc (a_1 : List Int))), (1, (.int .i64 k_4)), (4, (.int .i64 0)), (5, (.int .i64 i_5)), (9, (.bool (decide (i_5 < (a_1.length : Int)))))] ⟨h0, h1, h4, h5, rfl⟩ ?_
    rintro s ⟨h0, h1, h4, h5, h9⟩
    refine .nsq ?_
    refine run_cond (t := decide (i_5 < (a_1.length : Int))) h9 h (fun h => ?_) (fun h => ?_)
    · refine .skip ?_
      refine .nsq ?_
      refine .seq ?_
      refine .block ?_
      refine .seq ?_
      refine .seq ?_
      refine run_reg ?_
      refine e_end ?_
      refine g_v1 (t := 0) (u := (Enc.enc (a_1 : List Int))) (Enc.enc (a_1 : List Int)) h0 rfl rfl ?_
      refine g_v1 (t := 5) (u := (.int .i64 i_5)) (.int .i64 i_5) h5 rfl rfl ?_
      obtain ⟨e_7, E_e_7, h⟩ := bind_some h
      refine g_v (.ref .sh 0 [] (.int .i64 e_7)) (ev_idx (t := .sh) (lo := 0) (xs := a_1) rfl rfl E_e_7 rfl rfl) ?_
      refine g_v1 (t := 14) (u := (.ref .sh 0 [] (.int .i64 e_7))) (.int .i64 e_7) rfl rfl rfl ?_
      refine g_v1 (t := 1) (u := (.int .i64 k_4)) (.int .i64 k_4) h1 rfl rfl ?_
      refine g_v2 (t1 := 15) (t2 := 16) (u1 := (.int .i64 e_7)) (u2 := (.int .i64 k_4)) (.bool (e_7 != k_4)) rfl rfl rfl rfl ?_
      refine g_end ?_
      refine e_end ?_
      refine renew [(0, (Enc.enc (a_1 : List Int))), (1, (.int .i64 k_4)), (4, (.int .i64 0)), (5, (.int .i64 i_5)), (17, (.bool (e_7 != k_4)))] ⟨h0, h1, h4, h5, rfl⟩ ?_
      rintro s ⟨h0, h1, h4, h5, h17⟩
      refine .nsq ?_
      refine run_cond (t := (e_7 != k_4)) h17 h (fun h => ?_) (fun h => ?_)
      · refine .seq ?_
        refine run_reg ?_
        refine e_end ?_
        refine g_v0 (.int .i64 (-1)) rfl rfl ?_
        refine g_end ?_
        refine e_end ?_
        refine renew [(0, (Enc.enc (a_1 : List Int))), (1, (.int .i64 k_4)), (4, (.int .i64 (-1))), (5, (.int .i64 i_5))] ⟨h0, h1, rfl, h5⟩ ?_
        rintro s ⟨h0, h1, h4, h5⟩
        refine .nsq ?_
        refine .ret ?_
        have hr := Option.some.inj h
        subst hr
        exact rrA (res_tmp h4) rfl
      · refine .skip ?_
        refine .nsq ?_
        refine run_reg ?_
        refine e_end ?_
        refine g_v1 (t := 1) (u := (.int .i64 k_4)) (.int .i64 k_4) h1 rfl rfl ?_
        refine g_v1 (t := 18) (u := (.int .i64 k_4)) (.int .i64 (w64 (k_4 + 1))) rfl rfl rfl ?_
        refine g_v1 (t := 19) (u := (.int .i64 (w64 (k_4 + 1)))) (.int .i64 (w64 (k_4 + 1))) rfl rfl rfl ?_
        refine g_end ?_
        refine e_end ?_
        refine renew [(0, (Enc.enc (a_1 : List Int))), (1, (.int .i64 (w64 (k_4 + 1)))), (4, (.int .i64 0)), (5, (.int .i64 i_5))] ⟨h0, rfl, h4, h5⟩ ?_
        rintro s ⟨h0, h1, h4, h5⟩
        refine .nbk ?_
        refine .nsq ?_
        refine run_reg ?_
        refine e_end ?_
        refine g_v1 (t := 5) (u := (.int .i64 i_5)) (.int .i64 i_5) h5 rfl rfl ?_
        refine g_v1 (t := 10) (u := (.int .i64 i_5)) (.int .i64 (w64 (i_5 + 1))) rfl rfl rfl ?_
        refine g_v1 (t := 11) (u := (.int .i64 (w64 (i_5 + 1)))) (.int .i64 (w64 (i_5 + 1))) rfl rfl rfl ?_
        refine g_end ?_
        refine e_end ?_
        refine renew [(0, (Enc.enc (a_1 : List Int))), (1, (.int .i64 (w64 (k_4 + 1)))), (4, (.int .i64 0)), (5, (.int .i64 (w64 (i_5 + 1))))] ⟨h0, h1, h4, rfl⟩ ?_
        rintro s ⟨h0, h1, h4, h5⟩
        refine .nlp ?_
        exact ih (w64 (k_4 + 1)) (w64 (i_5 + 1)) _ ⟨h0, h1, h4, h5⟩ h
    · refine .exit ?_
      refine .esq ?_
      refine .elp ?_
      refine .ebk ?_
      refine .nsq ?_
      refine .seq ?_
      refine run_reg ?_
      refine e_end ?_
      refine g_v1 (t := 1) (u := (.int .i64 k_4)) (.int .i64 k_4) h1 rfl rfl ?_
      refine g_v1 (t := 20) (u := (.int .i64 k_4)) (.int .i64 k_4) rfl rfl rfl ?_
      refine g_end ?_
      refine e_end ?_
      refine renew [(4, (.int .i64 k_4))] rfl ?_
      rintro s h4
      refine .nsq ?_
      refine .ret ?_
      have hr := Option.some.inj h
      subst hr
      exact rrA (res_tmp h4) rfl
def w_heldIntS (F : Nat) (a_1 : (List Int)) (k_2 : Int) : Option Int :=
  w_heldIntS_l1 F a_1 F k_2 0
theorem t23 (H : H23 D σ F) (a_1 : (List Int)) (k_2 : Int) (s : Nat → V) (hs : Facts [(0, (Enc.enc (a_1 : List Int))), (1, (.int .i64 k_2))] s) (h : w_heldIntS F a_1 k_2 = some r) : Run D σ (R23 r) (.run A23 []) s := by
  unfold w_heldIntS at h
  obtain ⟨h0, h1⟩ := hs
  refine .seq ?_
  refine run_reg ?_
  refine e_end ?_
  refine g_v0 (.int .i64 0) rfl rfl ?_
  refine g_end ?_
  refine e_end ?_
  refine renew [(0, (Enc.enc (a_1 : List Int))), (1, (.int .i64 k_2)), (4, (.int .i64 0))] ⟨h0, h1, rfl⟩ ?_
  rintro s ⟨h0, h1, h4⟩
  refine .nsq ?_
  refine .seq ?_
  refine .seq ?_
  refine run_reg ?_
  refine e_end ?_
  refine g_v0 (.int .i64 0) rfl rfl ?_
  refine g_end ?_
  refine e_end ?_
  refine renew [(0, (Enc.enc (a_1 : List Int))), (1, (.int .i64 k_2)), (4, (.int .i64 0)), (5, (.int .i64 0))] ⟨h0, h1, h4, rfl⟩ ?_
  rintro s ⟨h0, h1, h4, h5⟩
  refine .nsq ?_
  refine .block ?_
  refine .loop ?_
  exact t_f23_l1 H a_1 F k_2 0 _ ⟨h0, h1, h4, h5⟩ h
end
def e23 (F : Nat) : Ent := ⟨23, da (fun (x : ((List Int) × Int × Unit)) => w_heldIntS F x.1 x.2.1) (fun (r : Int) => (Enc.enc (r : Int))), 0, false, selF []⟩
theorem p23 {F : Nat} {x0 : (List Int)} {x1 : Int} {r : Int} (h : w_heldIntS F x0 x1 = some r) : (e23 F).den [Enc.enc x0, Enc.enc x1] = some (Enc.enc (r : Int)) := da_put (f := fun (x : ((List Int) × Int × Unit)) => w_heldIntS F x.1 x.2.1) (t := fun (r : Int) => (Enc.enc (r : Int))) (x0, x1, ()) h
theorem o23 {D : Den} {σ : Sig} {F : Nat} (hF : Fits2 Try.prog D σ) (H : H23 D σ F) : (e23 F).Ok Try.prog := by
  refine ok_of (f := 23) (show unk 23 = 23 from rfl) (fun args r h => ?_) ⟨Try.f23, Try.func23, rfl, rfl⟩
  obtain ⟨⟨x0, x1, _⟩, y, rfl, hy, rfl⟩ := da_open h
  exact contract_run hF (by kernel_rfl) Try.func23 rfl c23 (show 2 ≤ Try.f23.ntmps by decide) (t23 H x0 x1 _ ⟨rfl, rfl⟩ hy)
/- loop.example/g01109/laws.FnExactFrontSizes -/
def A11_1 : AC := (AC.cond (O.t 108) (AC.seq (AC.reg [] [(I.mk (some 4) none false (X.v (A.mov (O.k (V.bool false)))))] []) AC.ret) AC.skip)
def A11_5 : AC := (AC.cond (O.t 113) (AC.seq (AC.reg [] [(I.mk (some 4) none false (X.v (A.mov (O.k (V.bool false)))))] []) AC.ret) AC.skip)
def A11_7 : AC := (AC.cond (O.t 116) (AC.seq (AC.reg [] [(I.mk (some 4) none false (X.v (A.mov (O.k (V.bool false)))))] []) AC.ret) AC.skip)
def A11_8 : AC := (AC.seq (AC.reg [] [(I.mk (some 4) none false (X.v (A.mov (O.k (V.bool true)))))] []) AC.ret)
def A11_6 : AC := (AC.seq (AC.seq (AC.reg [] [(I.mk (some 114) none false (X.v (A.mov (O.t 14)))), (I.mk (some 115) none false (X.v (A.mov (O.t 13)))), (I.mk (some 116) none false (X.v (A.bin BinOp.neq (O.t 114) (O.t 115))))] []) A11_7) A11_8)
def A11_4 : AC := (AC.seq (AC.seq (AC.reg [] [(I.mk (some 112) none false (X.v (A.mov (O.t 14)))), (I.mk (some 113) none false (X.v (A.bin BinOp.lss (O.t 112) (O.k (V.int IntKind.i64 (Int.ofNat 0))))))] []) A11_5) A11_6)
def A11_3 : AC := (AC.seq (AC.reg [] [(I.mk (some 109) none false (X.v (A.mov (O.t 10)))), (I.mk (some 110) none false (X.v (A.mov (O.t 14)))), (I.mk (some 111) none false (X.call (O.k (V.fn 23 [] [])) [(O.t 109), (O.t 110)])), (I.mk (some 14) none false (X.v (A.mov (O.t 111))))] []) A11_4)
def A11_2 : AC := (AC.seq (AC.reg [] [(I.mk (some 14) none false (X.v (A.mov (O.k (V.int IntKind.i64 (Int.ofNat 1))))))] []) A11_3)
def A11_9 : AC := (AC.cond (O.t 80) (AC.seq (AC.reg [] [(I.mk (some 4) none false (X.v (A.mov (O.k (V.bool false)))))] []) AC.ret) AC.skip)
def A11_15 : AC := (AC.cond (O.t 88) (AC.seq (AC.reg [] [(I.mk (some 4) none false (X.v (A.mov (O.k (V.bool false)))))] []) AC.ret) AC.skip)
def A11_17 : AC := (AC.cond (O.t 91) (AC.seq (AC.reg [] [(I.mk (some 4) none false (X.v (A.mov (O.k (V.bool false)))))] []) AC.ret) AC.skip)
def A11_19 : AC := (AC.seq (AC.seq (AC.reg [] [(I.mk (some 100) none false (X.v (A.mov (O.t 15)))), (I.mk (some 101) none false (X.v (A.mov (O.t 6)))), (I.mk (some 102) none false (X.call (O.k (V.fn 19 [] [])) [(O.t 100), (O.t 101)])), (I.mk (some 103) none false (X.v (A.un UnOp.not (O.t 102)))), (I.mk (some 104) none false (X.v (A.mov (O.t 103)))), (I.mk (some 105) (some (104, false)) false (X.v (A.mov (O.t 16)))), (I.mk (some 106) (some (104, false)) false (X.v (A.mov (O.t 7)))), (I.mk (some 107) (some (104, false)) false (X.v (A.beq true (O.t 105) (O.t 106)))), (I.mk (some 108) none false (X.v (A.pick (O.t 104) (O.k (V.bool true)) (O.t 107))))] []) A11_1) A11_2)
def A11_18 : AC := (AC.seq (AC.reg [.clr [97]] [(I.mk (some 93) none false (X.v (A.load (Sh.ag [Sh.s, Sh.p]) (O.t 2)))), (I.mk (some 94) none false (X.call (O.k (V.fn 17 [] [])) [(O.t 93)])), (I.mk (some 95) none false (X.v (A.mov (O.t 1)))), (I.mk (some 96) none false (X.call (O.k (V.fn 31 [] [])) [(O.t 95)])), (I.mk (some 97) none true (X.call (O.k (V.fn 40 [] [])) [(O.t 94), (O.t 96)])), (I.mk (some 92) none false (X.v (A.mov (O.t 97)))), (I.mk (some 98) none false (X.v (A.ext (O.t 92) 0))), (I.mk (some 99) none false (X.v (A.extS (O.t 92) 1))), (I.mk (some 15) none false (X.v (A.mov (O.t 98)))), (I.mk (some 16) none false (X.v (A.mov (O.t 99))))] [.home 97 15]) A11_19)
def A11_16 : AC := (AC.seq (AC.seq (AC.reg [] [(I.mk (some 89) none false (X.v (A.mov (O.t 14)))), (I.mk (some 90) none false (X.v (A.mov (O.t 13)))), (I.mk (some 91) none false (X.v (A.bin BinOp.neq (O.t 89) (O.t 90))))] []) A11_17) A11_18)
def A11_14 : AC := (AC.seq (AC.seq (AC.reg [] [(I.mk (some 87) none false (X.v (A.mov (O.t 14)))), (I.mk (some 88) none false (X.v (A.bin BinOp.lss (O.t 87) (O.k (V.int IntKind.i64 (Int.ofNat 0))))))] []) A11_15) A11_16)
def A11_13 : AC := (AC.seq (AC.reg [] [(I.mk (some 84) none false (X.v (A.mov (O.t 10)))), (I.mk (some 85) none false (X.v (A.mov (O.t 14)))), (I.mk (some 86) none false (X.call (O.k (V.fn 23 [] [])) [(O.t 84), (O.t 85)])), (I.mk (some 14) none false (X.v (A.mov (O.t 86))))] []) A11_14)
def A11_12 : AC := (AC.seq (AC.reg [] [(I.mk (some 14) none false (X.v (A.mov (O.k (V.int IntKind.i64 (Int.ofNat 1))))))] []) A11_13)
def A11_11 : AC := (AC.seq (AC.reg [] [(I.mk (some 81) none false (X.v (A.mov (O.t 10)))), (I.mk (some 82) none false (X.v (A.mov (O.t 13)))), (I.mk (some 83) none false (X.mark (O.k (V.fn 22 [] [])) [(O.t 81), (O.t 82)])), (I.mk (some 13) none false (X.v (A.mov (O.t 83))))] []) A11_12)
def A11_10 : AC := (AC.seq (AC.reg [] [(I.mk (some 13) none false (X.v (A.mov (O.k (V.int IntKind.i64 (Int.ofNat 1))))))] []) A11_11)
def A11_20 : AC := (AC.cond (O.t 51) (AC.seq (AC.reg [] [(I.mk (some 4) none false (X.v (A.mov (O.k (V.bool false)))))] []) AC.ret) AC.skip)
def A11_22 : AC := (AC.cond (O.t 56) (AC.seq (AC.reg [] [(I.mk (some 4) none false (X.v (A.mov (O.k (V.bool false)))))] []) AC.ret) AC.skip)
def A11_24 : AC := (AC.cond (O.t 61) (AC.seq (AC.reg [] [(I.mk (some 4) none false (X.v (A.mov (O.k (V.bool false)))))] []) AC.ret) AC.skip)
def A11_28 : AC := (AC.seq (AC.seq (AC.reg [] [(I.mk (some 68) none false (X.v (A.mov (O.t 12)))), (I.mk (some 69) none false (X.v (A.bin BinOp.lss (O.t 68) (O.k (V.int IntKind.i64 (Int.ofNat 0)))))), (I.mk (some 70) none false (X.v (A.mov (O.t 69)))), (I.mk (some 71) (some (70, false)) false (X.v (A.mov (O.t 10)))), (I.mk (some 72) (some (70, false)) false (X.v (A.mov (O.t 6)))), (I.mk (some 73) (some (70, false)) false (X.call (O.k (V.fn 19 [] [])) [(O.t 71), (O.t 72)])), (I.mk (some 74) (some (70, false)) false (X.v (A.un UnOp.not (O.t 73)))), (I.mk (some 75) none false (X.v (A.pick (O.t 70) (O.k (V.bool true)) (O.t 74)))), (I.mk (some 76) none false (X.v (A.mov (O.t 75)))), (I.mk (some 77) (some (76, false)) false (X.v (A.mov (O.t 11)))), (I.mk (some 78) (some (76, false)) false (X.v (A.mov (O.t 7)))), (I.mk (some 79) (some (76, false)) false (X.v (A.beq true (O.t 77) (O.t 78)))), (I.mk (some 80) none false (X.v (A.pick (O.t 76) (O.k (V.bool true)) (O.t 79))))] []) A11_9) A11_10)
def A11_27 : AC := (AC.seq (AC.reg [] [(I.mk (some 65) none false (X.v (A.mov (O.t 9)))), (I.mk (some 66) none false (X.v (A.mov (O.t 12)))), (I.mk (some 67) none false (X.mark (O.k (V.fn 22 [] [])) [(O.t 65), (O.t 66)])), (I.mk (some 12) none false (X.v (A.mov (O.t 67))))] []) A11_28)
def A11_26 : AC := (AC.seq (AC.reg [] [(I.mk (some 62) none false (X.v (A.load (Sh.ag [Sh.s, Sh.p]) (O.t 8)))), (I.mk (some 63) none false (X.v (A.mov (O.t 12)))), (I.mk (some 64) none false (X.mark (O.k (V.fn 21 [] [])) [(O.t 62), (O.t 63)])), (I.mk (some 12) none false (X.v (A.mov (O.t 64))))] []) A11_27)
def A11_25 : AC := (AC.seq (AC.reg [] [(I.mk (some 12) none false (X.v (A.mov (O.k (V.int IntKind.i64 (Int.ofNat 1))))))] []) A11_26)
def A11_23 : AC := (AC.seq (AC.seq (AC.reg [] [(I.mk (some 57) none false (X.v (A.mov (O.t 9)))), (I.mk (some 58) none false (X.v (A.mov (O.t 1)))), (I.mk (some 59) none false (X.call (O.k (V.fn 31 [] [])) [(O.t 58)])), (I.mk (some 60) none false (X.call (O.k (V.fn 19 [] [])) [(O.t 57), (O.t 59)])), (I.mk (some 61) none false (X.v (A.un UnOp.not (O.t 60))))] []) A11_24) A11_25)
def A11_21 : AC := (AC.seq (AC.seq (AC.reg [] [(I.mk (some 52) none false (X.v (A.load (Sh.ag [Sh.s, Sh.p]) (O.t 8)))), (I.mk (some 53) none false (X.v (A.load (Sh.ag [Sh.s, Sh.p]) (O.t 2)))), (I.mk (some 54) none false (X.call (O.k (V.fn 17 [] [])) [(O.t 53)])), (I.mk (some 55) none false (X.call (O.k (V.fn 20 [] [])) [(O.t 52), (O.t 54)])), (I.mk (some 56) none false (X.v (A.un UnOp.not (O.t 55))))] []) A11_22) A11_23)
def A11_30 : AC := (AC.cond (O.t 19) (AC.seq (AC.reg [] [(I.mk (some 4) none false (X.v (A.mov (O.k (V.bool true)))))] []) AC.ret) AC.skip)
def A11_34 : AC := (AC.cond (O.t 24) (AC.seq (AC.reg [] [(I.mk (some 4) none false (X.v (A.mov (O.k (V.bool true)))))] []) AC.ret) AC.skip)
def A11_39 : AC := (AC.seq (AC.seq (AC.reg [] [(I.mk (some 43) none false (X.v (A.mov (O.t 10)))), (I.mk (some 44) none false (X.v (A.mov (O.t 6)))), (I.mk (some 45) none false (X.call (O.k (V.fn 19 [] [])) [(O.t 43), (O.t 44)])), (I.mk (some 46) none false (X.v (A.un UnOp.not (O.t 45)))), (I.mk (some 47) none false (X.v (A.mov (O.t 46)))), (I.mk (some 48) (some (47, false)) false (X.v (A.mov (O.t 11)))), (I.mk (some 49) (some (47, false)) false (X.v (A.mov (O.t 7)))), (I.mk (some 50) (some (47, false)) false (X.v (A.beq true (O.t 48) (O.t 49)))), (I.mk (some 51) none false (X.v (A.pick (O.t 47) (O.k (V.bool true)) (O.t 50))))] []) A11_20) A11_21)
def A11_38 : AC := (AC.seq (AC.reg [.clr [40]] [(I.mk (some 38) none false (X.v (A.load (Sh.ag [Sh.s, Sh.p]) (O.t 8)))), (I.mk (some 39) none false (X.v (A.mov (O.t 9)))), (I.mk (some 40) none true (X.call (O.k (V.fn 40 [] [])) [(O.t 38), (O.t 39)])), (I.mk (some 37) none false (X.v (A.mov (O.t 40)))), (I.mk (some 41) none false (X.v (A.ext (O.t 37) 0))), (I.mk (some 42) none false (X.v (A.extS (O.t 37) 1))), (I.mk (some 10) none false (X.v (A.mov (O.t 41)))), (I.mk (some 11) none false (X.v (A.mov (O.t 42))))] [.home 40 10]) A11_39)
def A11_37 : AC := (AC.seq (AC.reg [.clr [36]] [(I.mk (some 35) none false (X.v (A.mov (O.t 1)))), (I.mk (some 36) none true (X.call (O.k (V.fn 31 [] [])) [(O.t 35)])), (I.mk (some 9) none false (X.v (A.mov (O.t 36))))] [.home 36 9]) A11_38)
def A11_36 : AC := (AC.seq (AC.reg [.clr [34, 8]] [(I.mk (some 33) none false (X.v (A.load (Sh.ag [Sh.s, Sh.p]) (O.t 2)))), (I.mk (some 34) none true (X.call (O.k (V.fn 17 [] [])) [(O.t 33)])), (I.mk (some 8) none false (X.alloc (V.agg [(V.int IntKind.i64 (Int.ofNat 0)), (V.sl Tok.nl (Sh.ag [Sh.s, Sh.s]) 0 [])]))), (I.mk none none false (X.store (Sh.ag [Sh.s, Sh.p]) (O.t 8) (O.t 34)))] []) A11_37)
def A11_35 : AC := (AC.seq (AC.reg [] [(I.mk (some 26) none false (X.v (A.load (Sh.ag [Sh.s, Sh.p]) (O.t 2)))), (I.mk (some 27) none false (X.call (O.k (V.fn 17 [] [])) [(O.t 26)])), (I.mk (some 28) none false (X.v (A.mov (O.t 1)))), (I.mk (some 29) none false (X.call (O.k (V.fn 31 [] [])) [(O.t 28)])), (I.mk (some 30) none false (X.call (O.k (V.fn 39 [] [])) [(O.t 27), (O.t 29)])), (I.mk (some 25) none false (X.v (A.mov (O.t 30)))), (I.mk (some 31) none false (X.v (A.ext (O.t 25) 0))), (I.mk (some 32) none false (X.v (A.extS (O.t 25) 1))), (I.mk (some 6) none false (X.v (A.mov (O.t 31)))), (I.mk (some 7) none false (X.v (A.mov (O.t 32))))] []) A11_36)
def A11_33 : AC := (AC.seq (AC.seq (AC.reg [] [(I.mk (some 23) none false (X.v (A.mov (O.t 5)))), (I.mk (some 24) none false (X.v (A.bin BinOp.lss (O.t 23) (O.k (V.int IntKind.i64 (Int.ofNat 0))))))] []) A11_34) A11_35)
def A11_32 : AC := (AC.seq (AC.reg [] [(I.mk (some 20) none false (X.v (A.load (Sh.ag [Sh.s, Sh.p]) (O.t 2)))), (I.mk (some 21) none false (X.v (A.mov (O.t 5)))), (I.mk (some 22) none false (X.call (O.k (V.fn 15 [] [])) [(O.t 20), (O.t 21)])), (I.mk (some 5) none false (X.v (A.mov (O.t 22))))] []) A11_33)
def A11_31 : AC := (AC.seq (AC.reg [] [(I.mk (some 5) none false (X.v (A.mov (O.k (V.int IntKind.i64 (Int.ofNat 1048576))))))] []) A11_32)
def A11_29 : AC := (AC.seq (AC.seq (AC.reg [] [(I.mk (some 17) none false (X.v (A.mov (O.t 1)))), (I.mk (some 18) none false (X.v (A.len (O.t 17)))), (I.mk (some 19) none false (X.v (A.bin BinOp.gtr (O.t 18) (O.k (V.int IntKind.i64 (Int.ofNat 1048576))))))] []) A11_30) A11_31)
def A11 : AC := (AC.seq (AC.reg [.clr [2]] [(I.mk (some 2) none false (X.box (O.t 0))), (I.mk (some 4) none false (X.v (A.mov (O.k (V.bool false)))))] []) A11_29)
def an11 : List An := [{ id := 0, pre := [.clr [2]], ep := [], lin := [], sp := [] }, { id := 8, pre := [.clr [34, 8]], ep := [], lin := [1], sp := [] }, { id := 9, pre := [.clr [36]], ep := [.home 36 9], lin := [1], sp := [] }, { id := 10, pre := [.clr [40]], ep := [.home 40 10], lin := [2], sp := [] }, { id := 18, pre := [], ep := [], lin := [], sp := [2] }, { id := 19, pre := [], ep := [], lin := [], sp := [2] }, { id := 23, pre := [], ep := [], lin := [], sp := [2] }, { id := 30, pre := [.clr [97]], ep := [.home 97 15], lin := [4], sp := [] }]
theorem c11 : cC Try.prog Try.f11.ntmps an11 (Try.f11.body.getD .skip) = some A11 := by kernel_rfl
structure H11 (D : Den) (σ : Sig) (F : Nat) : Prop where
  c15 : ∀ (x0 : (Int × (List (Int × Int)))) (x1 : Int) r, w_szGraph F x0 x1 = some r → D 15 [Enc.enc x0, Enc.enc x1] = some (Enc.enc (r : Int))
  g15 : σ 15 = some (0, false)
  c17 : ∀ (x0 : (Int × (List (Int × Int)))) r, w_toGraph F x0 = some r → D 17 [Enc.enc x0] = some (Enc.enc (r : (Int × (List (Int × Int)))))
  g17 : σ 17 = some (0, true)
  c31 : ∀ (x0 : (List Int)) r, w_toIntS F x0 = some r → D 31 [Enc.enc x0] = some (Enc.enc (r : (List Int)))
  g31 : σ 31 = some (0, false)
  c39 : ∀ (x0 : (Int × (List (Int × Int)))) (x1 : (List Int)) r, s_FrontSizes F x0 x1 = some r → D 39 [Enc.enc x0, Enc.enc x1] = some (.tup [Enc.enc (r.1 : (List Int)), Enc.enc (r.2 : Bool)])
  g39 : σ 39 = some (0, false)
  c17o : ∀ (x0 : (Int × (List (Int × Int)))) r, w_toGraph_o F x0 = some r → D 1000000017 [Enc.enc x0] = some (.agg [(Enc.enc (r.1 : Int)), (encO .sh (r.2 : NL (Int × Int)))])
  g17o : σ 1000000017 = some (1, false)
  c31o : ∀ (x0 : (List Int)) r, w_toIntS_o F x0 = some r → D 1000000031 [Enc.enc x0] = some (encO .sh (r : NL Int))
  g31o : σ 1000000031 = some (1, false)
  c40o : ∀ (x0 : (Int × (List (Int × Int)))) (x1 : (List Int)) r, i_FrontSizes_o F x0 x1 = some r → D 1000000040 [Enc.enc x0, Enc.enc x1] = some (.tup [(encO .sh (r.1 : NL Int)), (Enc.enc (r.2 : Bool))])
  g40o : σ 1000000040 = some (1, false)
  c19 : ∀ (x0 : (List Int)) (x1 : (List Int)) r, w_eqIntS F x0 x1 = some r → D 19 [Enc.enc x0, Enc.enc x1] = some (Enc.enc (r : Bool))
  g19 : σ 19 = some (0, false)
  c20 : ∀ (x0 : (Int × (List (Int × Int)))) (x1 : (Int × (List (Int × Int)))) r, w_eqGraph F x0 x1 = some r → D 20 [Enc.enc x0, Enc.enc x1] = some (Enc.enc (r : Bool))
  g20 : σ 20 = some (0, false)
  c21 : ∀ (x0 : (Og (Int × Int))) (x1 : Int) r, w_markGraph F x0 x1 = some r → D 21 [Arg.arg x0, Enc.enc x1] = some (.tup [Enc.enc (r : Int), .dead])
  g21 : σ 21 = some (pinR, false)
  c22 : ∀ (x0 : (On Int)) (x1 : Int) r, w_markIntS F x0 x1 = some r → D 22 [Arg.arg x0, Enc.enc x1] = some (.tup [Enc.enc (r.1 : Int), encO (.at pinR []) (r.2 : NL Int)])
  g22 : σ 22 = some (pinR, false)
  c23 : ∀ (x0 : (List Int)) (x1 : Int) r, w_heldIntS F x0 x1 = some r → D 23 [Enc.enc x0, Enc.enc x1] = some (Enc.enc (r : Int))
  g23 : σ 23 = some (0, false)
abbrev R11 (r : Bool) : (Nat → V) → Prop := RR Try.prog [.tmp 4] 0 false (Enc.enc (r : Bool))
section
variable {D : Den} {σ : Sig} {F : Nat} {r : Bool}
def w_FnExactFrontSizes_j1 (F : Nat) (m_21 : (NL Int)) (r_20 : (Int × NL Int))  (t108_27 : Bool) : Option Bool :=
  bif t108_27 then
    some false
  else
    (w_heldIntS F m_21.list 1).bind fun r_28 =>
    bif decide (r_28 < 0) then
      some false
    else
      bif (r_28 != r_20.1) then
        some false
      else
        some true
theorem t_f11_j1 (H : H11 D σ F) (m_21 : (NL Int)) (r_20 : (Int × NL Int))  (t108_27 : Bool) (s : Nat → V) (hs : Facts [(4, (.bool false)), (10, (encO (.at 10 [0]) (m_21 : NL Int))), (13, (.int .i64 r_20.1)), (108, (.bool t108_27))] s) (h : w_FnExactFrontSizes_j1 F m_21 r_20  t108_27 = some r) : Run D σ (R11 r) (.nrm [.sq A11_1, .sq A11_2]) s := by
  unfold w_FnExactFrontSizes_j1 at h
  obtain ⟨h4, h10, h13, h108⟩ := hs
  refine .nsq ?_
  refine run_cond (t := t108_27) h108 h (fun h => ?_) (fun h => ?_)
  · refine .seq ?_
    refine run_reg ?_
    refine e_end ?_
    refine g_v0 (.bool false) rfl rfl ?_
    refine g_end ?_
    refine e_end ?_
    refine renew [(4, (.bool false)), (10, (encO (.at 10 [0]) (m_21 : NL Int))), (13, (.int .i64 r_20.1))] ⟨rfl, h10, h13⟩ ?_
    rintro s ⟨h4, h10, h13⟩
    refine .nsq ?_
    refine .ret ?_
    have hr := Option.some.inj h
    subst hr
    exact rrA (res_tmp h4) rfl
  · refine .skip ?_
    refine .nsq ?_
    refine .seq ?_
    refine run_reg ?_
    refine e_end ?_
    refine g_v0 (.int .i64 1) rfl rfl ?_
    refine g_end ?_
    refine e_end ?_
    refine renew [(4, (.bool false)), (10, (encO (.at 10 [0]) (m_21 : NL Int))), (13, (.int .i64 r_20.1)), (14, (.int .i64 1))] ⟨h4, h10, h13, rfl⟩ ?_
    rintro s ⟨h4, h10, h13, h14⟩
    refine .nsq ?_
    refine .seq ?_
    refine run_reg ?_
    refine e_end ?_
    refine g_v (encO (.at 10 [0]) (m_21 : NL Int)) (ev_mov h10 ok_encO) ?_
    refine g_v1 (t := 14) (u := (.int .i64 1)) (.int .i64 1) h14 rfl rfl ?_
    obtain ⟨r_28, E_r_28, h⟩ := bind_some h
    refine g_call (m := 0) (al := false) (r := (Enc.enc (r_28 : Int))) [Enc.enc (m_21.list : (List Int)), Enc.enc (1 : Int)] (ta_cons (v := (encO (.at 10 [0]) (m_21 : NL Int))) rfl ok_encP (erase_encO (o := m_21)) (ta_cons (v := (.int .i64 1)) rfl rfl rfl ta_nil)) (H.c23 _ _ _ E_r_28) H.g23 rfl rfl rfl rfl ?_
    refine g_v1 (t := 111) (u := (.int .i64 r_28)) (.int .i64 r_28) rfl rfl rfl ?_
    refine g_end ?_
    refine e_end ?_
    refine renew [(4, (.bool false)), (13, (.int .i64 r_20.1)), (14, (.int .i64 r_28))] ⟨h4, h13, rfl⟩ ?_
    rintro s ⟨h4, h13, h14⟩
    refine .nsq ?_
    refine .seq ?_
    refine .seq ?_
    refine run_reg ?_
    refine e_end ?_
    refine g_v1 (t := 14) (u := (.int .i64 r_28)) (.int .i64 r_28) h14 rfl rfl ?_
    refine g_v1 (t := 112) (u := (.int .i64 r_28)) (.bool (decide (r_28 < 0))) rfl rfl rfl ?_
    refine g_end ?_
    refine e_end ?_
    refine renew [(4, (.bool false)), (13, (.int .i64 r_20.1)), (14, (.int .i64 r_28)), (113, (.bool (decide (r_28 < 0))))] ⟨h4, h13, h14, rfl⟩ ?_
    rintro s ⟨h4, h13, h14, h113⟩
    refine .nsq ?_
    refine run_cond (t := decide (r_28 < 0)) h113 h (fun h => ?_) (fun h => ?_)
    · refine .seq ?_
      refine run_reg ?_
      refine e_end ?_
      refine g_v0 (.bool false) rfl rfl ?_
      refine g_end ?_
      refine e_end ?_
      refine renew [(4, (.bool false)), (13, (.int .i64 r_20.1)), (14, (.int .i64 r_28))] ⟨rfl, h13, h14⟩ ?_
      rintro s ⟨h4, h13, h14⟩
      refine .nsq ?_
      refine .ret ?_
      have hr := Option.some.inj h
      subst hr
      exact rrA (res_tmp h4) rfl
    · refine .skip ?_
      refine .nsq ?_
      refine .seq ?_
      refine .seq ?_
      refine run_reg ?_
      refine e_end ?_
      refine g_v1 (t := 14) (u := (.int .i64 r_28)) (.int .i64 r_28) h14 rfl rfl ?_
      refine g_v1 (t := 13) (u := (.int .i64 r_20.1)) (.int .i64 r_20.1) h13 rfl rfl ?_
      refine g_v2 (t1 := 114) (t2 := 115) (u1 := (.int .i64 r_28)) (u2 := (.int .i64 r_20.1)) (.bool (r_28 != r_20.1)) rfl rfl rfl rfl ?_
      refine g_end ?_
      refine e_end ?_
      refine renew [(4, (.bool false)), (116, (.bool (r_28 != r_20.1)))] ⟨h4, rfl⟩ ?_
      rintro s ⟨h4, h116⟩
      refine .nsq ?_
      refine run_cond (t := (r_28 != r_20.1)) h116 h (fun h => ?_) (fun h => ?_)
      · refine .seq ?_
        refine run_reg ?_
        refine e_end ?_
        refine g_v0 (.bool false) rfl rfl ?_
        refine g_end ?_
        refine e_end ?_
        refine renew [(4, (.bool false))] rfl ?_
        rintro s h4
        refine .nsq ?_
        refine .ret ?_
        have hr := Option.some.inj h
        subst hr
        exact rrA (res_tmp h4) rfl
      · refine .skip ?_
        refine .nsq ?_
        refine .seq ?_
        refine run_reg ?_
        refine e_end ?_
        refine g_v0 (.bool true) rfl rfl ?_
        refine g_end ?_
        refine e_end ?_
        refine renew [(4, (.bool true))] rfl ?_
        rintro s h4
        refine .nsq ?_
        refine .ret ?_
        have hr := Option.some.inj h
        subst hr
        exact rrA (res_tmp h4) rfl
def w_FnExactFrontSizes_j2 (F : Nat) (aLayout_2 : (List Int)) (aG_1 : (Int × (List (Int × Int)))) (r_6 : ((List Int) × Bool)) (r_9 : ((NL Int) × Bool))  (t80_19 : Bool) : Option Bool :=
  bif t80_19 then
    some false
  else
    (w_markIntS F (On.mk r_9.1 : (On Int)) 1).bind fun r_20 =>
    (remark r_9.1 r_20.2).bind fun m_21 =>
    (w_heldIntS F m_21.list 1).bind fun r_22 =>
    bif decide (r_22 < 0) then
      some false
    else
      bif (r_22 != r_20.1) then
        some false
      else
        (w_toGraph F aG_1).bind fun r_23 =>
        (w_toIntS F aLayout_2).bind fun r_24 =>
        (i_FrontSizes_o F r_23 r_24).bind fun r_25 =>
        (w_eqIntS F r_25.1.list r_6.1).bind fun r_29 =>
        bif (!r_29) then
          w_FnExactFrontSizes_j1 F m_21 r_20 true
        else
          w_FnExactFrontSizes_j1 F m_21 r_20 (r_25.2 != r_6.2)
theorem t_f11_j2 (H : H11 D σ F) (aLayout_2 : (List Int)) (aG_1 : (Int × (List (Int × Int)))) (r_6 : ((List Int) × Bool)) (r_9 : ((NL Int) × Bool))  (t80_19 : Bool) (s : Nat → V) (hs : Facts [(1, (Enc.enc (aLayout_2 : List Int))), (2, (.ref (.bx 2) 0 [] (.agg [(.int .i64 aG_1.1), (Enc.enc (aG_1.2 : List (Int × Int)))]))), (4, (.bool false)), (6, (Enc.enc (r_6.1 : List Int))), (7, (.bool r_6.2)), (10, (encO (.at 10 [0]) (r_9.1 : NL Int))), (80, (.bool t80_19))] s) (h : w_FnExactFrontSizes_j2 F aLayout_2 aG_1 r_6 r_9  t80_19 = some r) : Run D σ (R11 r) (.nrm [.sq A11_9, .sq A11_10]) s := by
  unfold w_FnExactFrontSizes_j2 at h
  obtain ⟨h1, h2, h4, h6, h7, h10, h80⟩ := hs
  refine .nsq ?_
  refine run_cond (t := t80_19) h80 h (fun h => ?_) (fun h => ?_)
  · refine .seq ?_
    refine run_reg ?_
    refine e_end ?_
    refine g_v0 (.bool false) rfl rfl ?_
    refine g_end ?_
    refine e_end ?_
    refine renew [(1, (Enc.enc (aLayout_2 : List Int))), (2, (.ref (.bx 2) 0 [] (.agg [(.int .i64 aG_1.1), (Enc.enc (aG_1.2 : List (Int × Int)))]))), (4, (.bool false)), (6, (Enc.enc (r_6.1 : List Int))), (7, (.bool r_6.2)), (10, (encO (.at 10 [0]) (r_9.1 : NL Int)))] ⟨h1, h2, rfl, h6, h7, h10⟩ ?_
    rintro s ⟨h1, h2, h4, h6, h7, h10⟩
    refine .nsq ?_
    refine .ret ?_
    have hr := Option.some.inj h
    subst hr
    exact rrA (res_tmp h4) rfl
  · refine .skip ?_
    refine .nsq ?_
    refine .seq ?_
    refine run_reg ?_
    refine e_end ?_
    refine g_v0 (.int .i64 1) rfl rfl ?_
    refine g_end ?_
    refine e_end ?_
    refine renew [(1, (Enc.enc (aLayout_2 : List Int))), (2, (.ref (.bx 2) 0 [] (.agg [(.int .i64 aG_1.1), (Enc.enc (aG_1.2 : List (Int × Int)))]))), (4, (.bool false)), (6, (Enc.enc (r_6.1 : List Int))), (7, (.bool r_6.2)), (10, (encO (.at 10 [0]) (r_9.1 : NL Int))), (13, (.int .i64 1))] ⟨h1, h2, h4, h6, h7, h10, rfl⟩ ?_
    rintro s ⟨h1, h2, h4, h6, h7, h10, h13⟩
    refine .nsq ?_
    refine .seq ?_
    refine run_reg ?_
    refine e_end ?_
    refine g_v (encO (.at 10 [0]) (r_9.1 : NL Int)) (ev_mov h10 ok_encO) ?_
    refine g_v1 (t := 13) (u := (.int .i64 1)) (.int .i64 1) h13 rfl rfl ?_
    obtain ⟨r_20, E_r_20, h⟩ := bind_some h
    obtain ⟨m_21, E_m_21, h⟩ := bind_some h
    refine g_mark (v := (encO (.at 10 [0]) (r_9.1 : NL Int))) rfl (canon_own (o := (r_9.1 : NL Int)) rfl) (rdAll_cons (v := (.int .i64 1)) rfl rfl rdAll_nil) (H.c22 _ _ _ E_r_20) H.g22 rfl rfl (fun s_9 hm_9 => ?_)
    refine g_v1 (t := 83) (u := (.int .i64 r_20.1)) (.int .i64 r_20.1) rfl rfl rfl ?_
    refine g_end ?_
    refine e_end ?_
    refine renew [(1, (Enc.enc (aLayout_2 : List Int))), (2, (.ref (.bx 2) 0 [] (.agg [(.int .i64 aG_1.1), (Enc.enc (aG_1.2 : List (Int × Int)))]))), (4, (.bool false)), (6, (Enc.enc (r_6.1 : List Int))), (7, (.bool r_6.2)), (10, (encO (.at 10 [0]) (m_21 : NL Int))), (13, (.int .i64 r_20.1))] ⟨(show s_9 1 = (Enc.enc (aLayout_2 : List Int)) from hm_9 1 (Enc.enc (aLayout_2 : List Int)) (Enc.enc (aLayout_2 : List Int)) h1 (rem_enc (xs := (aLayout_2 : List Int)))), (show s_9 2 = (.ref (.bx 2) 0 [] (.agg [(.int .i64 aG_1.1), (Enc.enc (aG_1.2 : List (Int × Int)))])) from hm_9 2 (.ref (.bx 2) 0 [] (.agg [(.int .i64 aG_1.1), (Enc.enc (aG_1.2 : List (Int × Int)))])) (.ref (.bx 2) 0 [] (.agg [(.int .i64 aG_1.1), (Enc.enc (aG_1.2 : List (Int × Int)))])) h2 (rem_map rfl (map_bx (killO_ne rfl) (map_agg (maps_cons rfl (maps_cons (Enc.map_enc _ (aG_1.2 : List (Int × Int))) maps_nil)))))), (show s_9 4 = (.bool false) from hm_9 4 (.bool false) (.bool false) h4 (rem_map rfl rfl)), (show s_9 6 = (Enc.enc (r_6.1 : List Int)) from hm_9 6 (Enc.enc (r_6.1 : List Int)) (Enc.enc (r_6.1 : List Int)) h6 (rem_enc (xs := (r_6.1 : List Int)))), (show s_9 7 = (.bool r_6.2) from hm_9 7 (.bool r_6.2) (.bool r_6.2) h7 (rem_map rfl rfl)), (show s_9 10 = (encO (.at 10 [0]) (m_21 : NL Int)) from hm_9 10 (encO (.at 10 [0]) (r_9.1 : NL Int)) (encO (.at 10 [0]) (m_21 : NL Int)) h10 (marked_own (o := (r_9.1 : NL Int)) rfl E_m_21)), rfl⟩ ?_
    rintro s ⟨h1, h2, h4, h6, h7, h10, h13⟩
    refine .nsq ?_
    refine .seq ?_
    refine run_reg ?_
    refine e_end ?_
    refine g_v0 (.int .i64 1) rfl rfl ?_
    refine g_end ?_
    refine e_end ?_
    refine renew [(1, (Enc.enc (aLayout_2 : List Int))), (2, (.ref (.bx 2) 0 [] (.agg [(.int .i64 aG_1.1), (Enc.enc (aG_1.2 : List (Int × Int)))]))), (4, (.bool false)), (6, (Enc.enc (r_6.1 : List Int))), (7, (.bool r_6.2)), (10, (encO (.at 10 [0]) (m_21 : NL Int))), (13, (.int .i64 r_20.1)), (14, (.int .i64 1))] ⟨h1, h2, h4, h6, h7, h10, h13, rfl⟩ ?_
    rintro s ⟨h1, h2, h4, h6, h7, h10, h13, h14⟩
    refine .nsq ?_
    refine .seq ?_
    refine run_reg ?_
    refine e_end ?_
    refine g_v (encO (.at 10 [0]) (m_21 : NL Int)) (ev_mov h10 ok_encO) ?_
    refine g_v1 (t := 14) (u := (.int .i64 1)) (.int .i64 1) h14 rfl rfl ?_
    obtain ⟨r_22, E_r_22, h⟩ := bind_some h
    refine g_call (m := 0) (al := false) (r := (Enc.enc (r_22 : Int))) [Enc.enc (m_21.list : (List Int)), Enc.enc (1 : Int)] (ta_cons (v := (encO (.at 10 [0]) (m_21 : NL Int))) rfl ok_encP (erase_encO (o := m_21)) (ta_cons (v := (.int .i64 1)) rfl rfl rfl ta_nil)) (H.c23 _ _ _ E_r_22) H.g23 rfl rfl rfl rfl ?_
    refine g_v1 (t := 86) (u := (.int .i64 r_22)) (.int .i64 r_22) rfl rfl rfl ?_
    refine g_end ?_
    refine e_end ?_
    refine renew [(1, (Enc.enc (aLayout_2 : List Int))), (2, (.ref (.bx 2) 0 [] (.agg [(.int .i64 aG_1.1), (Enc.enc (aG_1.2 : List (Int × Int)))]))), (4, (.bool false)), (6, (Enc.enc (r_6.1 : List Int))), (7, (.bool r_6.2)), (10, (encO (.at 10 [0]) (m_21 : NL Int))), (13, (.int .i64 r_20.1)), (14, (.int .i64 r_22))] ⟨h1, h2, h4, h6, h7, h10, h13, rfl⟩ ?_
    rintro s ⟨h1, h2, h4, h6, h7, h10, h13, h14⟩
    refine .nsq ?_
    refine .seq ?_
    refine .seq ?_
    refine run_reg ?_
    refine e_end ?_
    refine g_v1 (t := 14) (u := (.int .i64 r_22)) (.int .i64 r_22) h14 rfl rfl ?_
    refine g_v1 (t := 87) (u := (.int .i64 r_22)) (.bool (decide (r_22 < 0))) rfl rfl rfl ?_
    refine g_end ?_
    refine e_end ?_
    refine renew [(1, (Enc.enc (aLayout_2 : List Int))), (2, (.ref (.bx 2) 0 [] (.agg [(.int .i64 aG_1.1), (Enc.enc (aG_1.2 : List (Int × Int)))]))), (4, (.bool false)), (6, (Enc.enc (r_6.1 : List Int))), (7, (.bool r_6.2)), (10, (encO (.at 10 [0]) (m_21 : NL Int))), (13, (.int .i64 r_20.1)), (14, (.int .i64 r_22)), (88, (.bool (decide (r_22 < 0))))] ⟨h1, h2, h4, h6, h7, h10, h13, h14, rfl⟩ ?_
    rintro s ⟨h1, h2, h4, h6, h7, h10, h13, h14, h88⟩
    refine .nsq ?_
    refine run_cond (t := decide (r_22 < 0)) h88 h (fun h => ?_) (fun h => ?_)
    · refine .seq ?_
      refine run_reg ?_
      refine e_end ?_
      refine g_v0 (.bool false) rfl rfl ?_
      refine g_end ?_
      refine e_end ?_
      refine renew [(1, (Enc.enc (aLayout_2 : List Int))), (2, (.ref (.bx 2) 0 [] (.agg [(.int .i64 aG_1.1), (Enc.enc (aG_1.2 : List (Int × Int)))]))), (4, (.bool false)), (6, (Enc.enc (r_6.1 : List Int))), (7, (.bool r_6.2)), (10, (encO (.at 10 [0]) (m_21 : NL Int))), (13, (.int .i64 r_20.1)), (14, (.int .i64 r_22))] ⟨h1, h2, rfl, h6, h7, h10, h13, h14⟩ ?_
      rintro s ⟨h1, h2, h4, h6, h7, h10, h13, h14⟩
      refine .nsq ?_
      refine .ret ?_
      have hr := Option.some.inj h
      subst hr
      exact rrA (res_tmp h4) rfl
    · refine .skip ?_
      refine .nsq ?_
      refine .seq ?_
      refine .seq ?_
      refine run_reg ?_
      refine e_end ?_
      refine g_v1 (t := 14) (u := (.int .i64 r_22)) (.int .i64 r_22) h14 rfl rfl ?_
      refine g_v1 (t := 13) (u := (.int .i64 r_20.1)) (.int .i64 r_20.1) h13 rfl rfl ?_
      refine g_v2 (t1 := 89) (t2 := 90) (u1 := (.int .i64 r_22)) (u2 := (.int .i64 r_20.1)) (.bool (r_22 != r_20.1)) rfl rfl rfl rfl ?_
      refine g_end ?_
      refine e_end ?_
      refine renew [(1, (Enc.enc (aLayout_2 : List Int))), (2, (.ref (.bx 2) 0 [] (.agg [(.int .i64 aG_1.1), (Enc.enc (aG_1.2 : List (Int × Int)))]))), (4, (.bool false)), (6, (Enc.enc (r_6.1 : List Int))), (7, (.bool r_6.2)), (10, (encO (.at 10 [0]) (m_21 : NL Int))), (13, (.int .i64 r_20.1)), (91, (.bool (r_22 != r_20.1)))] ⟨h1, h2, h4, h6, h7, h10, h13, rfl⟩ ?_
      rintro s ⟨h1, h2, h4, h6, h7, h10, h13, h91⟩
      refine .nsq ?_
      refine run_cond (t := (r_22 != r_20.1)) h91 h (fun h => ?_) (fun h => ?_)
      · refine .seq ?_
        refine run_reg ?_
        refine e_end ?_
        refine g_v0 (.bool false) rfl rfl ?_
        refine g_end ?_
        refine e_end ?_
        refine renew [(1, (Enc.enc (aLayout_2 : List Int))), (2, (.ref (.bx 2) 0 [] (.agg [(.int .i64 aG_1.1), (Enc.enc (aG_1.2 : List (Int × Int)))]))), (4, (.bool false)), (6, (Enc.enc (r_6.1 : List Int))), (7, (.bool r_6.2)), (10, (encO (.at 10 [0]) (m_21 : NL Int))), (13, (.int .i64 r_20.1))] ⟨h1, h2, rfl, h6, h7, h10, h13⟩ ?_
        rintro s ⟨h1, h2, h4, h6, h7, h10, h13⟩
        refine .nsq ?_
        refine .ret ?_
        have hr := Option.some.inj h
        subst hr
        exact rrA (res_tmp h4) rfl
      · refine .skip ?_
        refine .nsq ?_
        refine .seq ?_
        refine run_reg ?_
        refine e_clr ?_
        refine e_end ?_
        refine g_v1 (t := 2) (u := (.ref (.bx 2) 0 [] (.agg [(.int .i64 aG_1.1), (Enc.enc (aG_1.2 : List (Int × Int)))]))) (.agg [(.int .i64 aG_1.1), (Enc.enc (aG_1.2 : List (Int × Int)))]) (keep_clear (s := s) (pk := [97]) h2 rfl (map_bx rfl (map_agg (maps_cons rfl (maps_cons (Enc.map_enc _ (aG_1.2 : List (Int × Int))) maps_nil))))) rfl rfl ?_
        obtain ⟨r_23, E_r_23, h⟩ := bind_some h
        refine g_call (m := 0) (al := true) (r := (Enc.enc (r_23 : (Int × (List (Int × Int)))))) [Enc.enc (aG_1 : (Int × (List (Int × Int))))] (ta_cons (v := (.agg [(.int .i64 aG_1.1), (Enc.enc (aG_1.2 : List (Int × Int)))])) rfl rfl (Enc.erase_enc (aG_1 : (Int × (List (Int × Int))))) ta_nil) (H.c17 _ _ E_r_23) H.g17 (hal_of (ht_cons (v := (.agg [(.int .i64 aG_1.1), (Enc.enc (aG_1.2 : List (Int × Int)))])) rfl rfl rfl ht_nil)) rfl rfl rfl ?_
        refine g_v1 (t := 1) (u := (Enc.enc (aLayout_2 : List Int))) (Enc.enc (aLayout_2 : List Int)) (keep_clear (s := s) (pk := [97]) h1 rfl (Enc.map_enc _ (aLayout_2 : List Int))) rfl rfl ?_
        obtain ⟨r_24, E_r_24, h⟩ := bind_some h
        refine g_call (m := 0) (al := false) (r := (Enc.enc (r_24 : (List Int)))) [Enc.enc (aLayout_2 : (List Int))] (ta_cons (v := (Enc.enc (aLayout_2 : List Int))) rfl rfl (Enc.erase_enc (aLayout_2 : (List Int))) ta_nil) (H.c31 _ _ E_r_24) H.g31 rfl rfl rfl rfl ?_
        obtain ⟨r_25, E_r_25, h⟩ := bind_some h
        refine g_callO (m := 1) (al := false) (r := (.tup [(encO .sh (r_25.1 : NL Int)), (Enc.enc (r_25.2 : Bool))])) (v := (.tup [(encO (.at 97 [0]) (r_25.1 : NL Int)), (.bool r_25.2)])) (kk := 1000000040) [Enc.enc (r_23 : (Int × (List (Int × Int)))), Enc.enc (r_24 : (List Int))] (ta_cons (v := (.agg [(.int .i64 r_23.1), (Enc.enc (r_23.2 : List (Int × Int)))])) rfl rfl (Enc.erase_enc (r_23 : (Int × (List (Int × Int))))) (ta_cons (v := (Enc.enc (r_24 : List Int))) rfl rfl (Enc.erase_enc (r_24 : (List Int))) ta_nil)) (H.c40o _ _ _ E_r_25) H.g40o rfl (toks_tup (tokss_cons toks_encS (tokss_cons rfl tokss_nil))) (tag_tup (tags_cons tag_encO (tags_cons rfl tags_nil))) rfl (gone_clear (s := s) (pk := [97]) (t := 97) rfl) ?_
        refine g_v1 (t := 97) (u := (.tup [(encO (.at 97 [0]) (r_25.1 : NL Int)), (.bool r_25.2)])) (.tup [(encO (.at 97 [0]) (r_25.1 : NL Int)), (.bool r_25.2)]) rfl rfl rfl ?_
        refine g_v (encO (.at 97 [0]) (r_25.1 : NL Int)) (ev_extN (v := (encO (.at 97 [0]) (r_25.1 : NL Int))) rfl rfl ok_encP) ?_
        refine g_v1 (t := 92) (u := (.tup [(encO (.at 97 [0]) (r_25.1 : NL Int)), (.bool r_25.2)])) (.bool r_25.2) rfl rfl rfl ?_
        refine g_v (encO (.at 97 [0]) (r_25.1 : NL Int)) (ev_mov rfl ok_encO) ?_
        refine g_v1 (t := 99) (u := (.bool r_25.2)) (.bool r_25.2) rfl rfl rfl ?_
        refine g_end ?_
        refine e_home (r := 97) (x := 15) (v := (encO (.at 97 [0]) (r_25.1 : NL Int))) (by exact rfl) ok_encO (fun s_11 hg_11 => ?_)
        refine e_end ?_
        refine renew [(4, (.bool false)), (6, (Enc.enc (r_6.1 : List Int))), (7, (.bool r_6.2)), (10, (encO (.at 10 [0]) (m_21 : NL Int))), (13, (.int .i64 r_20.1)), (15, (encO (.at 15 [0]) (r_25.1 : NL Int))), (16, (.bool r_25.2))] ⟨(hg_11 4 (.bool false) (.bool false) (keep_clear (s := s) (pk := [97]) h4 rfl rfl) rfl), (hg_11 6 (Enc.enc (r_6.1 : List Int)) (Enc.enc (r_6.1 : List Int)) (keep_clear (s := s) (pk := [97]) h6 rfl (Enc.map_enc _ (r_6.1 : List Int))) (Enc.map_enc _ (r_6.1 : List Int))), (hg_11 7 (.bool r_6.2) (.bool r_6.2) (keep_clear (s := s) (pk := [97]) h7 rfl rfl) rfl), (hg_11 10 (encO (.at 10 [0]) (m_21 : NL Int)) (encO (.at 10 [0]) (m_21 : NL Int)) (keep_clear (s := s) (pk := [97]) h10 rfl (map_encO (r := 10) (p := [0]) rfl rfl)) (map_encO (r := 10) (p := [0]) rfl rfl)), (hg_11 13 (.int .i64 r_20.1) (.int .i64 r_20.1) (keep_clear (s := s) (pk := [97]) h13 rfl rfl) rfl), (hg_11 15 (encO (.at 97 [0]) (r_25.1 : NL Int)) (encO (.at 15 [0]) (r_25.1 : NL Int)) rfl (map_encO (r := 97) (p := [0]) rfl rfl)), (hg_11 16 (.bool r_25.2) (.bool r_25.2) rfl rfl)⟩ ?_
        rintro s ⟨h4, h6, h7, h10, h13, h15, h16⟩
        refine .nsq ?_
        refine .seq ?_
        refine .seq ?_
        refine run_reg ?_
        refine e_end ?_
        refine g_v (encO (.at 15 [0]) (r_25.1 : NL Int)) (ev_mov h15 ok_encO) ?_
        refine g_v1 (t := 6) (u := (Enc.enc (r_6.1 : List Int))) (Enc.enc (r_6.1 : List Int)) h6 rfl rfl ?_
        obtain ⟨r_29, E_r_29, h⟩ := bind_some h
        refine g_call (m := 0) (al := false) (r := (Enc.enc (r_29 : Bool))) [Enc.enc (r_25.1.list : (List Int)), Enc.enc (r_6.1 : (List Int))] (ta_cons (v := (encO (.at 15 [0]) (r_25.1 : NL Int))) rfl ok_encP (erase_encO (o := r_25.1)) (ta_cons (v := (Enc.enc (r_6.1 : List Int))) rfl rfl (Enc.erase_enc (r_6.1 : (List Int))) ta_nil)) (H.c19 _ _ _ E_r_29) H.g19 rfl rfl rfl rfl ?_
        refine g_v1 (t := 102) (u := (.bool r_29)) (.bool (!r_29)) rfl rfl rfl ?_
        refine g_v1 (t := 103) (u := (.bool (!r_29))) (.bool (!r_29)) rfl rfl rfl ?_
        refine split_on (c := (!r_29)) h (fun hg5 h => ?_) (fun hg5 h => ?_)
        · refine g_no (Eq.trans (b := .bool (!r_29)) rfl (congrArg V.bool hg5)) ?_
          refine g_no (Eq.trans (b := .bool (!r_29)) rfl (congrArg V.bool hg5)) ?_
          refine g_no (Eq.trans (b := .bool (!r_29)) rfl (congrArg V.bool hg5)) ?_
          refine g_v2 (t1 := 104) (t2 := 107) (u1 := (.bool true)) (u2 := (.tup [])) (.bool true) (Eq.trans (b := .bool (!r_29)) rfl (congrArg V.bool hg5)) rfl rfl rfl ?_
          refine g_end ?_
          refine e_end ?_
          refine renew [(4, (.bool false)), (10, (encO (.at 10 [0]) (m_21 : NL Int))), (13, (.int .i64 r_20.1)), (108, (.bool true))] ⟨h4, h10, h13, rfl⟩ ?_
          rintro s ⟨h4, h10, h13, h108⟩
          exact t_f11_j1 H m_21 r_20 true _ ⟨h4, h10, h13, h108⟩ h
        · refine g_yes (Eq.trans (b := .bool (!r_29)) rfl (congrArg V.bool hg5)) (g_v1 (t := 16) (u := (.bool r_25.2)) (.bool r_25.2) h16 rfl rfl ?_)
          refine g_yes (Eq.trans (b := .bool (!r_29)) rfl (congrArg V.bool hg5)) (g_v1 (t := 7) (u := (.bool r_6.2)) (.bool r_6.2) h7 rfl rfl ?_)
          refine g_yes (Eq.trans (b := .bool (!r_29)) rfl (congrArg V.bool hg5)) (g_v2 (t1 := 105) (t2 := 106) (u1 := (.bool r_25.2)) (u2 := (.bool r_6.2)) (.bool (r_25.2 != r_6.2)) rfl rfl rfl rfl ?_)
          refine g_v2 (t1 := 104) (t2 := 107) (u1 := (.bool false)) (u2 := (.bool (r_25.2 != r_6.2))) (.bool (r_25.2 != r_6.2)) (Eq.trans (b := .bool (!r_29)) rfl (congrArg V.bool hg5)) rfl rfl rfl ?_
          refine g_end ?_
          refine e_end ?_
          refine renew [(4, (.bool false)), (10, (encO (.at 10 [0]) (m_21 : NL Int))), (13, (.int .i64 r_20.1)), (108, (.bool (r_25.2 != r_6.2)))] ⟨h4, h10, h13, rfl⟩ ?_
          rintro s ⟨h4, h10, h13, h108⟩
          exact t_f11_j1 H m_21 r_20 (r_25.2 != r_6.2) _ ⟨h4, h10, h13, h108⟩ h
def w_FnExactFrontSizes_j3 (F : Nat) (aLayout_2 : (List Int)) (aG_1 : (Int × (List (Int × Int)))) (r_6 : ((List Int) × Bool)) (r_7 : (Int × (NL (Int × Int)))) (r_8 : (NL Int)) (r_9 : ((NL Int) × Bool))  (t51_11 : Bool) : Option Bool :=
  bif t51_11 then
    some false
  else
    (w_toGraph F aG_1).bind fun r_12 =>
    (w_eqGraph F (r_7.1, r_7.2.list) r_12).bind fun r_13 =>
    bif (!r_13) then
      some false
    else
      (w_toIntS F aLayout_2).bind fun r_14 =>
      (w_eqIntS F r_8.list r_14).bind fun r_15 =>
      bif (!r_15) then
        some false
      else
        (w_markGraph F (Og.mk r_7.1 r_7.2 : (Og (Int × Int))) 1).bind fun r_16 =>
        (w_markIntS F (On.mk r_8 : (On Int)) r_16).bind fun r_17 =>
        bif decide (r_17.1 < 0) then
          w_FnExactFrontSizes_j2 F aLayout_2 aG_1 r_6 r_9 true
        else
          (w_eqIntS F r_9.1.list r_6.1).bind fun r_30 =>
          bif (!r_30) then
            w_FnExactFrontSizes_j2 F aLayout_2 aG_1 r_6 r_9 true
          else
            w_FnExactFrontSizes_j2 F aLayout_2 aG_1 r_6 r_9 (r_9.2 != r_6.2)
theorem t_f11_j3 (H : H11 D σ F) (aLayout_2 : (List Int)) (aG_1 : (Int × (List (Int × Int)))) (r_6 : ((List Int) × Bool)) (r_7 : (Int × (NL (Int × Int)))) (r_8 : (NL Int)) (r_9 : ((NL Int) × Bool))  (t51_11 : Bool) (s : Nat → V) (hs : Facts [(1, (Enc.enc (aLayout_2 : List Int))), (2, (.ref (.bx 2) 0 [] (.agg [(.int .i64 aG_1.1), (Enc.enc (aG_1.2 : List (Int × Int)))]))), (4, (.bool false)), (6, (Enc.enc (r_6.1 : List Int))), (7, (.bool r_6.2)), (8, (.ref (.bx 8) 0 [] (.agg [(.int .i64 r_7.1), (encO (.at 34 [1]) (r_7.2 : NL (Int × Int)))]))), (9, (encO (.at 9 []) (r_8 : NL Int))), (10, (encO (.at 10 [0]) (r_9.1 : NL Int))), (11, (.bool r_9.2)), (51, (.bool t51_11))] s) (h : w_FnExactFrontSizes_j3 F aLayout_2 aG_1 r_6 r_7 r_8 r_9  t51_11 = some r) : Run D σ (R11 r) (.nrm [.sq A11_20, .sq A11_21]) s := by
  unfold w_FnExactFrontSizes_j3 at h
  obtain ⟨h1, h2, h4, h6, h7, h8, h9, h10, h11, h51⟩ := hs
  refine .nsq ?_
  refine run_cond (t := t51_11) h51 h (fun h => ?_) (fun h => ?_)
  · refine .seq ?_
    refine run_reg ?_
    refine e_end ?_
    refine g_v0 (.bool false) rfl rfl ?_
    refine g_end ?_
    refine e_end ?_
    refine renew [(1, (Enc.enc (aLayout_2 : List Int))), (2, (.ref (.bx 2) 0 [] (.agg [(.int .i64 aG_1.1), (Enc.enc (aG_1.2 : List (Int × Int)))]))), (4, (.bool false)), (6, (Enc.enc (r_6.1 : List Int))), (7, (.bool r_6.2)), (8, (.ref (.bx 8) 0 [] (.agg [(.int .i64 r_7.1), (encO (.at 34 [1]) (r_7.2 : NL (Int × Int)))]))), (9, (encO (.at 9 []) (r_8 : NL Int))), (10, (encO (.at 10 [0]) (r_9.1 : NL Int))), (11, (.bool r_9.2))] ⟨h1, h2, rfl, h6, h7, h8, h9, h10, h11⟩ ?_
    rintro s ⟨h1, h2, h4, h6, h7, h8, h9, h10, h11⟩
    refine .nsq ?_
    refine .ret ?_
    have hr := Option.some.inj h
    subst hr
    exact rrA (res_tmp h4) rfl
  · refine .skip ?_
    refine .nsq ?_
    refine .seq ?_
    refine .seq ?_
    refine run_reg ?_
    refine e_end ?_
    refine g_v (.agg [(.int .i64 r_7.1), (encO (.at 34 [1]) (r_7.2 : NL (Int × Int)))]) (ev_loadN (c := (.agg [(.int .i64 r_7.1), (encO (.at 34 [1]) (r_7.2 : NL (Int × Int)))])) h8 (by simp [V.shape, V.shapes, shape_encP, Sh.beq, Sh.beqs])) ?_
    refine g_v1 (t := 2) (u := (.ref (.bx 2) 0 [] (.agg [(.int .i64 aG_1.1), (Enc.enc (aG_1.2 : List (Int × Int)))]))) (.agg [(.int .i64 aG_1.1), (Enc.enc (aG_1.2 : List (Int × Int)))]) h2 rfl rfl ?_
    obtain ⟨r_12, E_r_12, h⟩ := bind_some h
    refine g_call (m := 0) (al := true) (r := (Enc.enc (r_12 : (Int × (List (Int × Int)))))) [Enc.enc (aG_1 : (Int × (List (Int × Int))))] (ta_cons (v := (.agg [(.int .i64 aG_1.1), (Enc.enc (aG_1.2 : List (Int × Int)))])) rfl rfl (Enc.erase_enc (aG_1 : (Int × (List (Int × Int))))) ta_nil) (H.c17 _ _ E_r_12) H.g17 (hal_of (ht_cons (v := (.agg [(.int .i64 aG_1.1), (Enc.enc (aG_1.2 : List (Int × Int)))])) rfl rfl rfl ht_nil)) rfl rfl rfl ?_
    obtain ⟨r_13, E_r_13, h⟩ := bind_some h
    refine g_call (m := 0) (al := false) (r := (Enc.enc (r_13 : Bool))) [Enc.enc ((r_7.1, r_7.2.list) : (Int × (List (Int × Int)))), Enc.enc (r_12 : (Int × (List (Int × Int))))] (ta_cons (v := (.agg [(.int .i64 r_7.1), (encO (.at 34 [1]) (r_7.2 : NL (Int × Int)))])) rfl rfl (erase_agg (erases_cons rfl (erases_cons (erase_encO (o := r_7.2)) erases_nil))) (ta_cons (v := (.agg [(.int .i64 r_12.1), (Enc.enc (r_12.2 : List (Int × Int)))])) rfl rfl (Enc.erase_enc (r_12 : (Int × (List (Int × Int))))) ta_nil)) (H.c20 _ _ _ E_r_13) H.g20 rfl rfl rfl rfl ?_
    refine g_v1 (t := 55) (u := (.bool r_13)) (.bool (!r_13)) rfl rfl rfl ?_
    refine g_end ?_
    refine e_end ?_
    refine renew [(1, (Enc.enc (aLayout_2 : List Int))), (2, (.ref (.bx 2) 0 [] (.agg [(.int .i64 aG_1.1), (Enc.enc (aG_1.2 : List (Int × Int)))]))), (4, (.bool false)), (6, (Enc.enc (r_6.1 : List Int))), (7, (.bool r_6.2)), (8, (.ref (.bx 8) 0 [] (.agg [(.int .i64 r_7.1), (encO (.at 34 [1]) (r_7.2 : NL (Int × Int)))]))), (9, (encO (.at 9 []) (r_8 : NL Int))), (10, (encO (.at 10 [0]) (r_9.1 : NL Int))), (11, (.bool r_9.2)), (56, (.bool (!r_13)))] ⟨h1, h2, h4, h6, h7, h8, h9, h10, h11, rfl⟩ ?_
    rintro s ⟨h1, h2, h4, h6, h7, h8, h9, h10, h11, h56⟩
    refine .nsq ?_
    refine run_cond (t := (!r_13)) h56 h (fun h => ?_) (fun h => ?_)
    · refine .seq ?_
      refine run_reg ?_
      refine e_end ?_
      refine g_v0 (.bool false) rfl rfl ?_
      refine g_end ?_
      refine e_end ?_
      refine renew [(1, (Enc.enc (aLayout_2 : List Int))), (2, (.ref (.bx 2) 0 [] (.agg [(.int .i64 aG_1.1), (Enc.enc (aG_1.2 : List (Int × Int)))]))), (4, (.bool false)), (6, (Enc.enc (r_6.1 : List Int))), (7, (.bool r_6.2)), (8, (.ref (.bx 8) 0 [] (.agg [(.int .i64 r_7.1), (encO (.at 34 [1]) (r_7.2 : NL (Int × Int)))]))), (9, (encO (.at 9 []) (r_8 : NL Int))), (10, (encO (.at 10 [0]) (r_9.1 : NL Int))), (11, (.bool r_9.2))] ⟨h1, h2, rfl, h6, h7, h8, h9, h10, h11⟩ ?_
      rintro s ⟨h1, h2, h4, h6, h7, h8, h9, h10, h11⟩
      refine .nsq ?_
      refine .ret ?_
      have hr := Option.some.inj h
      subst hr
      exact rrA (res_tmp h4) rfl
    · refine .skip ?_
      refine .nsq ?_
      refine .seq ?_
      refine .seq ?_
      refine run_reg ?_
      refine e_end ?_
      refine g_v (encO (.at 9 []) (r_8 : NL Int)) (ev_mov h9 ok_encO) ?_
      refine g_v1 (t := 1) (u := (Enc.enc (aLayout_2 : List Int))) (Enc.enc (aLayout_2 : List Int)) h1 rfl rfl ?_
      obtain ⟨r_14, E_r_14, h⟩ := bind_some h
      refine g_call (m := 0) (al := false) (r := (Enc.enc (r_14 : (List Int)))) [Enc.enc (aLayout_2 : (List Int))] (ta_cons (v := (Enc.enc (aLayout_2 : List Int))) rfl rfl (Enc.erase_enc (aLayout_2 : (List Int))) ta_nil) (H.c31 _ _ E_r_14) H.g31 rfl rfl rfl rfl ?_
      obtain ⟨r_15, E_r_15, h⟩ := bind_some h
      refine g_call (m := 0) (al := false) (r := (Enc.enc (r_15 : Bool))) [Enc.enc (r_8.list : (List Int)), Enc.enc (r_14 : (List Int))] (ta_cons (v := (encO (.at 9 []) (r_8 : NL Int))) rfl ok_encP (erase_encO (o := r_8)) (ta_cons (v := (Enc.enc (r_14 : List Int))) rfl rfl (Enc.erase_enc (r_14 : (List Int))) ta_nil)) (H.c19 _ _ _ E_r_15) H.g19 rfl rfl rfl rfl ?_
      refine g_v1 (t := 60) (u := (.bool r_15)) (.bool (!r_15)) rfl rfl rfl ?_
      refine g_end ?_
      refine e_end ?_
      refine renew [(1, (Enc.enc (aLayout_2 : List Int))), (2, (.ref (.bx 2) 0 [] (.agg [(.int .i64 aG_1.1), (Enc.enc (aG_1.2 : List (Int × Int)))]))), (4, (.bool false)), (6, (Enc.enc (r_6.1 : List Int))), (7, (.bool r_6.2)), (8, (.ref (.bx 8) 0 [] (.agg [(.int .i64 r_7.1), (encO (.at 34 [1]) (r_7.2 : NL (Int × Int)))]))), (9, (encO (.at 9 []) (r_8 : NL Int))), (10, (encO (.at 10 [0]) (r_9.1 : NL Int))), (11, (.bool r_9.2)), (61, (.bool (!r_15)))] ⟨h1, h2, h4, h6, h7, h8, h9, h10, h11, rfl⟩ ?_
      rintro s ⟨h1, h2, h4, h6, h7, h8, h9, h10, h11, h61⟩
      refine .nsq ?_
      refine run_cond (t := (!r_15)) h61 h (fun h => ?_) (fun h => ?_)
      · refine .seq ?_
        refine run_reg ?_
        refine e_end ?_
        refine g_v0 (.bool false) rfl rfl ?_
        refine g_end ?_
        refine e_end ?_
        refine renew [(1, (Enc.enc (aLayout_2 : List Int))), (2, (.ref (.bx 2) 0 [] (.agg [(.int .i64 aG_1.1), (Enc.enc (aG_1.2 : List (Int × Int)))]))), (4, (.bool false)), (6, (Enc.enc (r_6.1 : List Int))), (7, (.bool r_6.2)), (8, (.ref (.bx 8) 0 [] (.agg [(.int .i64 r_7.1), (encO (.at 34 [1]) (r_7.2 : NL (Int × Int)))]))), (9, (encO (.at 9 []) (r_8 : NL Int))), (10, (encO (.at 10 [0]) (r_9.1 : NL Int))), (11, (.bool r_9.2))] ⟨h1, h2, rfl, h6, h7, h8, h9, h10, h11⟩ ?_
        rintro s ⟨h1, h2, h4, h6, h7, h8, h9, h10, h11⟩
        refine .nsq ?_
        refine .ret ?_
        have hr := Option.some.inj h
        subst hr
        exact rrA (res_tmp h4) rfl
      · refine .skip ?_
        refine .nsq ?_
        refine .seq ?_
        refine run_reg ?_
        refine e_end ?_
        refine g_v0 (.int .i64 1) rfl rfl ?_
        refine g_end ?_
        refine e_end ?_
        refine renew [(1, (Enc.enc (aLayout_2 : List Int))), (2, (.ref (.bx 2) 0 [] (.agg [(.int .i64 aG_1.1), (Enc.enc (aG_1.2 : List (Int × Int)))]))), (4, (.bool false)), (6, (Enc.enc (r_6.1 : List Int))), (7, (.bool r_6.2)), (8, (.ref (.bx 8) 0 [] (.agg [(.int .i64 r_7.1), (encO (.at 34 [1]) (r_7.2 : NL (Int × Int)))]))), (9, (encO (.at 9 []) (r_8 : NL Int))), (10, (encO (.at 10 [0]) (r_9.1 : NL Int))), (11, (.bool r_9.2)), (12, (.int .i64 1))] ⟨h1, h2, h4, h6, h7, h8, h9, h10, h11, rfl⟩ ?_
        rintro s ⟨h1, h2, h4, h6, h7, h8, h9, h10, h11, h12⟩
        refine .nsq ?_
        refine .seq ?_
        refine run_reg ?_
        refine e_end ?_
        refine g_v (.agg [(.int .i64 r_7.1), (encO (.at 34 [1]) (r_7.2 : NL (Int × Int)))]) (ev_loadN (c := (.agg [(.int .i64 r_7.1), (encO (.at 34 [1]) (r_7.2 : NL (Int × Int)))])) h8 (by simp [V.shape, V.shapes, shape_encP, Sh.beq, Sh.beqs])) ?_
        refine g_v1 (t := 12) (u := (.int .i64 1)) (.int .i64 1) h12 rfl rfl ?_
        obtain ⟨r_16, E_r_16, h⟩ := bind_some h
        refine g_mark (v := (.agg [(.int .i64 r_7.1), (encO (.at 34 [1]) (r_7.2 : NL (Int × Int)))])) rfl (canon_agg (a := r_7.1) (o := (r_7.2 : NL (Int × Int))) rfl) (rdAll_cons (v := (.int .i64 1)) rfl rfl rdAll_nil) (H.c21 _ _ _ E_r_16) H.g21 rfl rfl (fun s_7 hm_7 => ?_)
        refine g_v1 (t := 64) (u := (.int .i64 r_16)) (.int .i64 r_16) rfl rfl rfl ?_
        refine g_end ?_
        refine e_end ?_
        refine renew [(1, (Enc.enc (aLayout_2 : List Int))), (2, (.ref (.bx 2) 0 [] (.agg [(.int .i64 aG_1.1), (Enc.enc (aG_1.2 : List (Int × Int)))]))), (4, (.bool false)), (6, (Enc.enc (r_6.1 : List Int))), (7, (.bool r_6.2)), (9, (encO (.at 9 []) (r_8 : NL Int))), (10, (encO (.at 10 [0]) (r_9.1 : NL Int))), (11, (.bool r_9.2)), (12, (.int .i64 r_16))] ⟨(show s_7 1 = (Enc.enc (aLayout_2 : List Int)) from hm_7 1 (Enc.enc (aLayout_2 : List Int)) (Enc.enc (aLayout_2 : List Int)) h1 (rem_enc (xs := (aLayout_2 : List Int)))), (show s_7 2 = (.ref (.bx 2) 0 [] (.agg [(.int .i64 aG_1.1), (Enc.enc (aG_1.2 : List (Int × Int)))])) from hm_7 2 (.ref (.bx 2) 0 [] (.agg [(.int .i64 aG_1.1), (Enc.enc (aG_1.2 : List (Int × Int)))])) (.ref (.bx 2) 0 [] (.agg [(.int .i64 aG_1.1), (Enc.enc (aG_1.2 : List (Int × Int)))])) h2 (rem_map rfl (map_bx (killO_ne rfl) (map_agg (maps_cons rfl (maps_cons (Enc.map_enc _ (aG_1.2 : List (Int × Int))) maps_nil)))))), (show s_7 4 = (.bool false) from hm_7 4 (.bool false) (.bool false) h4 (rem_map rfl rfl)), (show s_7 6 = (Enc.enc (r_6.1 : List Int)) from hm_7 6 (Enc.enc (r_6.1 : List Int)) (Enc.enc (r_6.1 : List Int)) h6 (rem_enc (xs := (r_6.1 : List Int)))), (show s_7 7 = (.bool r_6.2) from hm_7 7 (.bool r_6.2) (.bool r_6.2) h7 (rem_map rfl rfl)), (show s_7 9 = (encO (.at 9 []) (r_8 : NL Int)) from hm_7 9 (encO (.at 9 []) (r_8 : NL Int)) (encO (.at 9 []) (r_8 : NL Int)) h9 (rem_own (r := 9) (p := []) (o := (r_8 : NL Int)) rfl rfl)), (show s_7 10 = (encO (.at 10 [0]) (r_9.1 : NL Int)) from hm_7 10 (encO (.at 10 [0]) (r_9.1 : NL Int)) (encO (.at 10 [0]) (r_9.1 : NL Int)) h10 (rem_own (r := 10) (p := [0]) (o := (r_9.1 : NL Int)) rfl rfl)), (show s_7 11 = (.bool r_9.2) from hm_7 11 (.bool r_9.2) (.bool r_9.2) h11 (rem_map rfl rfl)), rfl⟩ ?_
        rintro s ⟨h1, h2, h4, h6, h7, h9, h10, h11, h12⟩
        refine .nsq ?_
        refine .seq ?_
        refine run_reg ?_
        refine e_end ?_
        refine g_v (encO (.at 9 []) (r_8 : NL Int)) (ev_mov h9 ok_encO) ?_
        refine g_v1 (t := 12) (u := (.int .i64 r_16)) (.int .i64 r_16) h12 rfl rfl ?_
        obtain ⟨r_17, E_r_17, h⟩ := bind_some h
        refine g_mark (v := (encO (.at 9 []) (r_8 : NL Int))) rfl (canon_own (o := (r_8 : NL Int)) rfl) (rdAll_cons (v := (.int .i64 r_16)) rfl rfl rdAll_nil) (H.c22 _ _ _ E_r_17) H.g22 rfl rfl (fun s_8 hm_8 => ?_)
        refine g_v1 (t := 67) (u := (.int .i64 r_17.1)) (.int .i64 r_17.1) rfl rfl rfl ?_
        refine g_end ?_
        refine e_end ?_
        refine renew [(1, (Enc.enc (aLayout_2 : List Int))), (2, (.ref (.bx 2) 0 [] (.agg [(.int .i64 aG_1.1), (Enc.enc (aG_1.2 : List (Int × Int)))]))), (4, (.bool false)), (6, (Enc.enc (r_6.1 : List Int))), (7, (.bool r_6.2)), (10, (encO (.at 10 [0]) (r_9.1 : NL Int))), (11, (.bool r_9.2)), (12, (.int .i64 r_17.1))] ⟨(show s_8 1 = (Enc.enc (aLayout_2 : List Int)) from hm_8 1 (Enc.enc (aLayout_2 : List Int)) (Enc.enc (aLayout_2 : List Int)) h1 (rem_enc (xs := (aLayout_2 : List Int)))), (show s_8 2 = (.ref (.bx 2) 0 [] (.agg [(.int .i64 aG_1.1), (Enc.enc (aG_1.2 : List (Int × Int)))])) from hm_8 2 (.ref (.bx 2) 0 [] (.agg [(.int .i64 aG_1.1), (Enc.enc (aG_1.2 : List (Int × Int)))])) (.ref (.bx 2) 0 [] (.agg [(.int .i64 aG_1.1), (Enc.enc (aG_1.2 : List (Int × Int)))])) h2 (rem_map rfl (map_bx (killO_ne rfl) (map_agg (maps_cons rfl (maps_cons (Enc.map_enc _ (aG_1.2 : List (Int × Int))) maps_nil)))))), (show s_8 4 = (.bool false) from hm_8 4 (.bool false) (.bool false) h4 (rem_map rfl rfl)), (show s_8 6 = (Enc.enc (r_6.1 : List Int)) from hm_8 6 (Enc.enc (r_6.1 : List Int)) (Enc.enc (r_6.1 : List Int)) h6 (rem_enc (xs := (r_6.1 : List Int)))), (show s_8 7 = (.bool r_6.2) from hm_8 7 (.bool r_6.2) (.bool r_6.2) h7 (rem_map rfl rfl)), (show s_8 10 = (encO (.at 10 [0]) (r_9.1 : NL Int)) from hm_8 10 (encO (.at 10 [0]) (r_9.1 : NL Int)) (encO (.at 10 [0]) (r_9.1 : NL Int)) h10 (rem_own (r := 10) (p := [0]) (o := (r_9.1 : NL Int)) rfl rfl)), (show s_8 11 = (.bool r_9.2) from hm_8 11 (.bool r_9.2) (.bool r_9.2) h11 (rem_map rfl rfl)), rfl⟩ ?_
        rintro s ⟨h1, h2, h4, h6, h7, h10, h11, h12⟩
        refine .nsq ?_
        refine .seq ?_
        refine .seq ?_
        refine run_reg ?_
        refine e_end ?_
        refine g_v1 (t := 12) (u := (.int .i64 r_17.1)) (.int .i64 r_17.1) h12 rfl rfl ?_
        refine g_v1 (t := 68) (u := (.int .i64 r_17.1)) (.bool (decide (r_17.1 < 0))) rfl rfl rfl ?_
        refine g_v1 (t := 69) (u := (.bool (decide (r_17.1 < 0)))) (.bool (decide (r_17.1 < 0))) rfl rfl rfl ?_
        refine split_on (c := decide (r_17.1 < 0)) h (fun hg3 h => ?_) (fun hg3 h => ?_)
        · refine g_no (Eq.trans (b := .bool (decide (r_17.1 < 0))) rfl (congrArg V.bool hg3)) ?_
          refine g_no (Eq.trans (b := .bool (decide (r_17.1 < 0))) rfl (congrArg V.bool hg3)) ?_
          refine g_no (Eq.trans (b := .bool (decide (r_17.1 < 0))) rfl (congrArg V.bool hg3)) ?_
          refine g_no (Eq.trans (b := .bool (decide (r_17.1 < 0))) rfl (congrArg V.bool hg3)) ?_
          refine g_v2 (t1 := 70) (t2 := 74) (u1 := (.bool true)) (u2 := (.tup [])) (.bool true) (Eq.trans (b := .bool (decide (r_17.1 < 0))) rfl (congrArg V.bool hg3)) rfl rfl rfl ?_
          refine g_v1 (t := 75) (u := (.bool true)) (.bool true) rfl rfl rfl ?_
          refine g_no rfl ?_
          refine g_no rfl ?_
          refine g_no rfl ?_
          refine g_v2 (t1 := 76) (t2 := 79) (u1 := (.bool true)) (u2 := (.tup [])) (.bool true) rfl rfl rfl rfl ?_
          refine g_end ?_
          refine e_end ?_
          refine renew [(1, (Enc.enc (aLayout_2 : List Int))), (2, (.ref (.bx 2) 0 [] (.agg [(.int .i64 aG_1.1), (Enc.enc (aG_1.2 : List (Int × Int)))]))), (4, (.bool false)), (6, (Enc.enc (r_6.1 : List Int))), (7, (.bool r_6.2)), (10, (encO (.at 10 [0]) (r_9.1 : NL Int))), (80, (.bool true))] ⟨h1, h2, h4, h6, h7, h10, rfl⟩ ?_
          rintro s ⟨h1, h2, h4, h6, h7, h10, h80⟩
          exact t_f11_j2 H aLayout_2 aG_1 r_6 r_9 true _ ⟨h1, h2, h4, h6, h7, h10, h80⟩ h
        · refine g_yes (Eq.trans (b := .bool (decide (r_17.1 < 0))) rfl (congrArg V.bool hg3)) (g_v (encO (.at 10 [0]) (r_9.1 : NL Int)) (ev_mov h10 ok_encO) ?_)
          refine g_yes (Eq.trans (b := .bool (decide (r_17.1 < 0))) rfl (congrArg V.bool hg3)) (g_v1 (t := 6) (u := (Enc.enc (r_6.1 : List Int))) (Enc.enc (r_6.1 : List Int)) h6 rfl rfl ?_)
          obtain ⟨r_30, E_r_30, h⟩ := bind_some h
          refine g_yes (Eq.trans (b := .bool (decide (r_17.1 < 0))) rfl (congrArg V.bool hg3)) (g_call (m := 0) (al := false) (r := (Enc.enc (r_30 : Bool))) [Enc.enc (r_9.1.list : (List Int)), Enc.enc (r_6.1 : (List Int))] (ta_cons (v := (encO (.at 10 [0]) (r_9.1 : NL Int))) rfl ok_encP (erase_encO (o := r_9.1)) (ta_cons (v := (Enc.enc (r_6.1 : List Int))) rfl rfl (Enc.erase_enc (r_6.1 : (List Int))) ta_nil)) (H.c19 _ _ _ E_r_30) H.g19 rfl rfl rfl rfl ?_)
          refine g_yes (Eq.trans (b := .bool (decide (r_17.1 < 0))) rfl (congrArg V.bool hg3)) (g_v1 (t := 73) (u := (.bool r_30)) (.bool (!r_30)) rfl rfl rfl ?_)
          refine g_v2 (t1 := 70) (t2 := 74) (u1 := (.bool false)) (u2 := (.bool (!r_30))) (.bool (!r_30)) (Eq.trans (b := .bool (decide (r_17.1 < 0))) rfl (congrArg V.bool hg3)) rfl rfl rfl ?_
          refine g_v1 (t := 75) (u := (.bool (!r_30))) (.bool (!r_30)) rfl rfl rfl ?_
          refine split_on (c := (!r_30)) h (fun hg9 h => ?_) (fun hg9 h => ?_)
          · refine g_no (Eq.trans (b := .bool (!r_30)) rfl (congrArg V.bool hg9)) ?_
            refine g_no (Eq.trans (b := .bool (!r_30)) rfl (congrArg V.bool hg9)) ?_
            refine g_no (Eq.trans (b := .bool (!r_30)) rfl (congrArg V.bool hg9)) ?_
            refine g_v2 (t1 := 76) (t2 := 79) (u1 := (.bool true)) (u2 := (.tup [])) (.bool true) (Eq.trans (b := .bool (!r_30)) rfl (congrArg V.bool hg9)) rfl rfl rfl ?_
            refine g_end ?_
            refine e_end ?_
            refine renew [(1, (Enc.enc (aLayout_2 : List Int))), (2, (.ref (.bx 2) 0 [] (.agg [(.int .i64 aG_1.1), (Enc.enc (aG_1.2 : List (Int × Int)))]))), (4, (.bool false)), (6, (Enc.enc (r_6.1 : List Int))), (7, (.bool r_6.2)), (10, (encO (.at 10 [0]) (r_9.1 : NL Int))), (80, (.bool true))] ⟨h1, h2, h4, h6, h7, h10, rfl⟩ ?_
            rintro s ⟨h1, h2, h4, h6, h7, h10, h80⟩
            exact t_f11_j2 H aLayout_2 aG_1 r_6 r_9 true _ ⟨h1, h2, h4, h6, h7, h10, h80⟩ h
          · refine g_yes (Eq.trans (b := .bool (!r_30)) rfl (congrArg V.bool hg9)) (g_v1 (t := 11) (u := (.bool r_9.2)) (.bool r_9.2) h11 rfl rfl ?_)
            refine g_yes (Eq.trans (b := .bool (!r_30)) rfl (congrArg V.bool hg9)) (g_v1 (t := 7) (u := (.bool r_6.2)) (.bool r_6.2) h7 rfl rfl ?_)
            refine g_yes (Eq.trans (b := .bool (!r_30)) rfl (congrArg V.bool hg9)) (g_v2 (t1 := 77) (t2 := 78) (u1 := (.bool r_9.2)) (u2 := (.bool r_6.2)) (.bool (r_9.2 != r_6.2)) rfl rfl rfl rfl ?_)
            refine g_v2 (t1 := 76) (t2 := 79) (u1 := (.bool false)) (u2 := (.bool (r_9.2 != r_6.2))) (.bool (r_9.2 != r_6.2)) (Eq.trans (b := .bool (!r_30)) rfl (congrArg V.bool hg9)) rfl rfl rfl ?_
            refine g_end ?_
            refine e_end ?_
            refine renew [(1, (Enc.enc (aLayout_2 : List Int))), (2, (.ref (.bx 2) 0 [] (.agg [(.int .i64 aG_1.1), (Enc.enc (aG_1.2 : List (Int × Int)))]))), (4, (.bool false)), (6, (Enc.enc (r_6.1 : List Int))), (7, (.bool r_6.2)), (10, (encO (.at 10 [0]) (r_9.1 : NL Int))), (80, (.bool (r_9.2 != r_6.2)))] ⟨h1, h2, h4, h6, h7, h10, rfl⟩ ?_
            rintro s ⟨h1, h2, h4, h6, h7, h10, h80⟩
            exact t_f11_j2 H aLayout_2 aG_1 r_6 r_9 (r_9.2 != r_6.2) _ ⟨h1, h2, h4, h6, h7, h10, h80⟩ h
def w_FnExactFrontSizes (F : Nat) (aG_1 : (Int × (List (Int × Int)))) (aLayout_2 : (List Int)) : Option Bool :=
  bif decide ((aLayout_2.length : Int) > 1048576) then
    some true
  else
    (w_szGraph F aG_1 1048576).bind fun r_3 =>
    bif decide (r_3 < 0) then
      some true
    else
      (w_toGraph F aG_1).bind fun r_4 =>
      (w_toIntS F aLayout_2).bind fun r_5 =>
      (s_FrontSizes F r_4 r_5).bind fun r_6 =>
      (w_toGraph_o F aG_1).bind fun r_7 =>
      (w_toIntS_o F aLayout_2).bind fun r_8 =>
      (i_FrontSizes_o F (r_7.1, r_7.2.list) r_8.list).bind fun r_9 =>
      (w_eqIntS F r_9.1.list r_6.1).bind fun r_31 =>
      bif (!r_31) then
        w_FnExactFrontSizes_j3 F aLayout_2 aG_1 r_6 r_7 r_8 r_9 true
      else
        w_FnExactFrontSizes_j3 F aLayout_2 aG_1 r_6 r_7 r_8 r_9 (r_9.2 != r_6.2)
theorem t11 (H : H11 D σ F) (aG_1 : (Int × (List (Int × Int)))) (aLayout_2 : (List Int)) (s : Nat → V) (hs : Facts [(0, (.agg [(.int .i64 aG_1.1), (Enc.enc (aG_1.2 : List (Int × Int)))])), (1, (Enc.enc (aLayout_2 : List Int)))] s) (h : w_FnExactFrontSizes F aG_1 aLayout_2 = some r) : Run D σ (R11 r) (.run A11 []) s := by
  unfold w_FnExactFrontSizes at h
  obtain ⟨h0, h1⟩ := hs
  refine .seq ?_
  refine run_reg ?_
  refine e_clr ?_
  refine e_end ?_
  refine g_box (.agg [(.int .i64 aG_1.1), (Enc.enc (aG_1.2 : List (Int × Int)))]) (rd_of (keep_clear (s := s) (pk := [2]) h0 rfl (map_agg (maps_cons rfl (maps_cons (Enc.map_enc _ (aG_1.2 : List (Int × Int))) maps_nil)))) rfl) (gone_clear (s := s) (pk := [2]) (t := 2) rfl) rfl ?_
  refine g_v0 (.bool false) rfl rfl ?_
  refine g_end ?_
  refine e_end ?_
  refine renew [(1, (Enc.enc (aLayout_2 : List Int))), (2, (.ref (.bx 2) 0 [] (.agg [(.int .i64 aG_1.1), (Enc.enc (aG_1.2 : List (Int × Int)))]))), (4, (.bool false))] ⟨(keep_clear (s := s) (pk := [2]) h1 rfl (Enc.map_enc _ (aLayout_2 : List Int))), rfl, rfl⟩ ?_
  rintro s ⟨h1, h2, h4⟩
  refine .nsq ?_
  refine .seq ?_
  refine .seq ?_
  refine run_reg ?_
  refine e_end ?_
  refine g_v1 (t := 1) (u := (Enc.enc (aLayout_2 : List Int))) (Enc.enc (aLayout_2 : List Int)) h1 rfl rfl ?_
  refine g_v (.int .i64 (aLayout_2.length : Int)) (ev_len (xs := aLayout_2) rfl) ?_
  refine g_v1 (t := 18) (u := (.int .i64 (aLayout_2.length : Int))) (.bool (decide ((aLayout_2.length : Int) > 1048576))) rfl rfl rfl ?_
  refine g_end ?_
  refine e_end ?_
  refine renew [(1, (Enc.enc (aLayout_2 : List Int))), (2, (.ref (.bx 2) 0 [] (.agg [(.int .i64 aG_1.1), (Enc.enc (aG_1.2 : List (Int × Int)))]))), (4, (.bool false)), (19, (.bool (decide ((aLayout_2.length : Int) > 1048576))))] ⟨h1, h2, h4, rfl⟩ ?_
  rintro s ⟨h1, h2, h4, h19⟩
  refine .nsq ?_
  refine run_cond (t := decide ((aLayout_2.length : Int) > 1048576)) h19 h (fun h => ?_) (fun h => ?_)
  · refine .seq ?_
    refine run_reg ?_
    refine e_end ?_
    refine g_v0 (.bool true) rfl rfl ?_
    refine g_end ?_
    refine e_end ?_
    refine renew [(1, (Enc.enc (aLayout_2 : List Int))), (2, (.ref (.bx 2) 0 [] (.agg [(.int .i64 aG_1.1), (Enc.enc (aG_1.2 : List (Int × Int)))]))), (4, (.bool true))] ⟨h1, h2, rfl⟩ ?_
    rintro s ⟨h1, h2, h4⟩
    refine .nsq ?_
    refine .ret ?_
    have hr := Option.some.inj h
    subst hr
    exact rrA (res_tmp h4) rfl
  · refine .skip ?_
    refine .nsq ?_
    refine .seq ?_
    refine run_reg ?_
    refine e_end ?_
    refine g_v0 (.int .i64 1048576) rfl rfl ?_
    refine g_end ?_
    refine e_end ?_
    refine renew [(1, (Enc.enc (aLayout_2 : List Int))), (2, (.ref (.bx 2) 0 [] (.agg [(.int .i64 aG_1.1), (Enc.enc (aG_1.2 : List (Int × Int)))]))), (4, (.bool false)), (5, (.int .i64 1048576))] ⟨h1, h2, h4, rfl⟩ ?_
    rintro s ⟨h1, h2, h4, h5⟩
    refine .nsq ?_
    refine .seq ?_
    refine run_reg ?_
    refine e_end ?_
    refine g_v1 (t := 2) (u := (.ref (.bx 2) 0 [] (.agg [(.int .i64 aG_1.1), (Enc.enc (aG_1.2 : List (Int × Int)))]))) (.agg [(.int .i64 aG_1.1), (Enc.enc (aG_1.2 : List (Int × Int)))]) h2 rfl rfl ?_
    refine g_v1 (t := 5) (u := (.int .i64 1048576)) (.int .i64 1048576) h5 rfl rfl ?_
    obtain ⟨r_3, E_r_3, h⟩ := bind_some h
    refine g_call (m := 0) (al := false) (r := (Enc.enc (r_3 : Int))) [Enc.enc (aG_1 : (Int × (List (Int × Int)))), Enc.enc (1048576 : Int)] (ta_cons (v := (.agg [(.int .i64 aG_1.1), (Enc.enc (aG_1.2 : List (Int × Int)))])) rfl rfl (Enc.erase_enc (aG_1 : (Int × (List (Int × Int))))) (ta_cons (v := (.int .i64 1048576)) rfl rfl rfl ta_nil)) (H.c15 _ _ _ E_r_3) H.g15 rfl rfl rfl rfl ?_
    refine g_v1 (t := 22) (u := (.int .i64 r_3)) (.int .i64 r_3) rfl rfl rfl ?_
    refine g_end ?_
    refine e_end ?_
    refine renew [(1, (Enc.enc (aLayout_2 : List Int))), (2, (.ref (.bx 2) 0 [] (.agg [(.int .i64 aG_1.1), (Enc.enc (aG_1.2 : List (Int × Int)))]))), (4, (.bool false)), (5, (.int .i64 r_3))] ⟨h1, h2, h4, rfl⟩ ?_
    rintro s ⟨h1, h2, h4, h5⟩
    refine .nsq ?_
    refine .seq ?_
    refine .seq ?_
    refine run_reg ?_
    refine e_end ?_
    refine g_v1 (t := 5) (u := (.int .i64 r_3)) (.int .i64 r_3) h5 rfl rfl ?_
    refine g_v1 (t := 23) (u := (.int .i64 r_3)) (.bool (decide (r_3 < 0))) rfl rfl rfl ?_
    refine g_end ?_
    refine e_end ?_
    refine renew [(1, (Enc.enc (aLayout_2 : List Int))), (2, (.ref (.bx 2) 0 [] (.agg [(.int .i64 aG_1.1), (Enc.enc (aG_1.2 : List (Int × Int)))]))), (4, (.bool false)), (24, (.bool (decide (r_3 < 0))))] ⟨h1, h2, h4, rfl⟩ ?_
    rintro s ⟨h1, h2, h4, h24⟩
    refine .nsq ?_
    refine run_cond (t := decide (r_3 < 0)) h24 h (fun h => ?_) (fun h => ?_)
    · refine .seq ?_
      refine run_reg ?_
      refine e_end ?_
      refine g_v0 (.bool true) rfl rfl ?_
      refine g_end ?_
      refine e_end ?_
      refine renew [(1, (Enc.enc (aLayout_2 : List Int))), (2, (.ref (.bx 2) 0 [] (.agg [(.int .i64 aG_1.1), (Enc.enc (aG_1.2 : List (Int × Int)))]))), (4, (.bool true))] ⟨h1, h2, rfl⟩ ?_
      rintro s ⟨h1, h2, h4⟩
      refine .nsq ?_
      refine .ret ?_
      have hr := Option.some.inj h
      subst hr
      exact rrA (res_tmp h4) rfl
    · refine .skip ?_
      refine .nsq ?_
      refine .seq ?_
      refine run_reg ?_
      refine e_end ?_
      refine g_v1 (t := 2) (u := (.ref (.bx 2) 0 [] (.agg [(.int .i64 aG_1.1), (Enc.enc (aG_1.2 : List (Int × Int)))]))) (.agg [(.int .i64 aG_1.1), (Enc.enc (aG_1.2 : List (Int × Int)))]) h2 rfl rfl ?_
      obtain ⟨r_4, E_r_4, h⟩ := bind_some h
      refine g_call (m := 0) (al := true) (r := (Enc.enc (r_4 : (Int × (List (Int × Int)))))) [Enc.enc (aG_1 : (Int × (List (Int × Int))))] (ta_cons (v := (.agg [(.int .i64 aG_1.1), (Enc.enc (aG_1.2 : List (Int × Int)))])) rfl rfl (Enc.erase_enc (aG_1 : (Int × (List (Int × Int))))) ta_nil) (H.c17 _ _ E_r_4) H.g17 (hal_of (ht_cons (v := (.agg [(.int .i64 aG_1.1), (Enc.enc (aG_1.2 : List (Int × Int)))])) rfl rfl rfl ht_nil)) rfl rfl rfl ?_
      refine g_v1 (t := 1) (u := (Enc.enc (aLayout_2 : List Int))) (Enc.enc (aLayout_2 : List Int)) h1 rfl rfl ?_
      obtain ⟨r_5, E_r_5, h⟩ := bind_some h
      refine g_call (m := 0) (al := false) (r := (Enc.enc (r_5 : (List Int)))) [Enc.enc (aLayout_2 : (List Int))] (ta_cons (v := (Enc.enc (aLayout_2 : List Int))) rfl rfl (Enc.erase_enc (aLayout_2 : (List Int))) ta_nil) (H.c31 _ _ E_r_5) H.g31 rfl rfl rfl rfl ?_
      obtain ⟨r_6, E_r_6, h⟩ := bind_some h
      refine g_call (m := 0) (al := false) (r := (.tup [Enc.enc (r_6.1 : (List Int)), Enc.enc (r_6.2 : Bool)])) [Enc.enc (r_4 : (Int × (List (Int × Int)))), Enc.enc (r_5 : (List Int))] (ta_cons (v := (.agg [(.int .i64 r_4.1), (Enc.enc (r_4.2 : List (Int × Int)))])) rfl rfl (Enc.erase_enc (r_4 : (Int × (List (Int × Int))))) (ta_cons (v := (Enc.enc (r_5 : List Int))) rfl rfl (Enc.erase_enc (r_5 : (List Int))) ta_nil)) (H.c39 _ _ _ E_r_6) H.g39 rfl rfl rfl rfl ?_
      refine g_v1 (t := 30) (u := (.tup [(Enc.enc (r_6.1 : List Int)), (.bool r_6.2)])) (.tup [(Enc.enc (r_6.1 : List Int)), (.bool r_6.2)]) rfl rfl rfl ?_
      refine g_v1 (t := 25) (u := (.tup [(Enc.enc (r_6.1 : List Int)), (.bool r_6.2)])) (Enc.enc (r_6.1 : List Int)) rfl rfl rfl ?_
      refine g_v1 (t := 25) (u := (.tup [(Enc.enc (r_6.1 : List Int)), (.bool r_6.2)])) (.bool r_6.2) rfl rfl rfl ?_
      refine g_v1 (t := 31) (u := (Enc.enc (r_6.1 : List Int))) (Enc.enc (r_6.1 : List Int)) rfl rfl rfl ?_
      refine g_v1 (t := 32) (u := (.bool r_6.2)) (.bool r_6.2) rfl rfl rfl ?_
      refine g_end ?_
      refine e_end ?_
      refine renew [(1, (Enc.enc (aLayout_2 : List Int))), (2, (.ref (.bx 2) 0 [] (.agg [(.int .i64 aG_1.1), (Enc.enc (aG_1.2 : List (Int × Int)))]))), (4, (.bool false)), (6, (Enc.enc (r_6.1 : List Int))), (7, (.bool r_6.2))] ⟨h1, h2, h4, rfl, rfl⟩ ?_
      rintro s ⟨h1, h2, h4, h6, h7⟩
      refine .nsq ?_
      refine .seq ?_
      refine run_reg ?_
      refine e_clr ?_
      refine e_end ?_
      refine g_v1 (t := 2) (u := (.ref (.bx 2) 0 [] (.agg [(.int .i64 aG_1.1), (Enc.enc (aG_1.2 : List (Int × Int)))]))) (.agg [(.int .i64 aG_1.1), (Enc.enc (aG_1.2 : List (Int × Int)))]) (keep_clear (s := s) (pk := [34, 8]) h2 rfl (map_bx rfl (map_agg (maps_cons rfl (maps_cons (Enc.map_enc _ (aG_1.2 : List (Int × Int))) maps_nil))))) rfl rfl ?_
      obtain ⟨r_7, E_r_7, h⟩ := bind_some h
      refine g_callO (m := 1) (al := false) (r := (.agg [(Enc.enc (r_7.1 : Int)), (encO .sh (r_7.2 : NL (Int × Int)))])) (v := (.agg [(.int .i64 r_7.1), (encO (.at 34 [1]) (r_7.2 : NL (Int × Int)))])) (kk := 1000000017) [Enc.enc (aG_1 : (Int × (List (Int × Int))))] (ta_cons (v := (.agg [(.int .i64 aG_1.1), (Enc.enc (aG_1.2 : List (Int × Int)))])) rfl rfl (Enc.erase_enc (aG_1 : (Int × (List (Int × Int))))) ta_nil) (H.c17o _ _ E_r_7) H.g17o rfl (toks_agg (tokss_cons rfl (tokss_cons toks_encS tokss_nil))) (tag_agg (tags_cons rfl (tags_cons tag_encO tags_nil))) rfl (gone_clear (s := s) (pk := [34, 8]) (t := 34) rfl) ?_
      refine g_alloc (gone_clear (s := s) (pk := [34, 8]) (t := 8) rfl) ?_
      refine g_store (.agg [(.int .i64 r_7.1), (encO (.at 34 [1]) (r_7.2 : NL (Int × Int)))]) (rd_of rfl rfl) (rd_of rfl rfl) ⟨by decide, by decide, rfl, (by simp [V.shape, V.shapes, shape_encP, Sh.beq, Sh.beqs]), (by simp [V.shape, V.shapes, shape_encP, Sh.beq, Sh.beqs]), (by simp [V.toks, V.tokss, tok_memP])⟩ ?_
      refine g_end ?_
      refine e_end ?_
      refine renew [(1, (Enc.enc (aLayout_2 : List Int))), (2, (.ref (.bx 2) 0 [] (.agg [(.int .i64 aG_1.1), (Enc.enc (aG_1.2 : List (Int × Int)))]))), (4, (.bool false)), (6, (Enc.enc (r_6.1 : List Int))), (7, (.bool r_6.2)), (8, (.ref (.bx 8) 0 [] (.agg [(.int .i64 r_7.1), (encO (.at 34 [1]) (r_7.2 : NL (Int × Int)))])))] ⟨(keep_mut (keep_clear (s := s) (pk := [34, 8]) h1 rfl (Enc.map_enc _ (aLayout_2 : List Int))) (Enc.mut_enc _ _ _ _ (aLayout_2 : List Int))), (keep_mut (keep_clear (s := s) (pk := [34, 8]) h2 rfl (map_bx rfl (map_agg (maps_cons rfl (maps_cons (Enc.map_enc _ (aG_1.2 : List (Int × Int))) maps_nil))))) (mut_ref_ne rfl rfl (mut_agg (muts_cons rfl (muts_cons (Enc.mut_enc _ _ _ _ (aG_1.2 : List (Int × Int))) rfl))))), (keep_mut (keep_clear (s := s) (pk := [34, 8]) h4 rfl rfl) rfl), (keep_mut (keep_clear (s := s) (pk := [34, 8]) h6 rfl (Enc.map_enc _ (r_6.1 : List Int))) (Enc.mut_enc _ _ _ _ (r_6.1 : List Int))), (keep_mut (keep_clear (s := s) (pk := [34, 8]) h7 rfl rfl) rfl), (keep_mut rfl rfl)⟩ ?_
      rintro s ⟨h1, h2, h4, h6, h7, h8⟩
      refine .nsq ?_
      refine .seq ?_
      refine run_reg ?_
      refine e_clr ?_
      refine e_end ?_
      refine g_v1 (t := 1) (u := (Enc.enc (aLayout_2 : List Int))) (Enc.enc (aLayout_2 : List Int)) (keep_clear (s := s) (pk := [36]) h1 rfl (Enc.map_enc _ (aLayout_2 : List Int))) rfl rfl ?_
      obtain ⟨r_8, E_r_8, h⟩ := bind_some h
      refine g_callO (m := 1) (al := false) (r := (encO .sh (r_8 : NL Int))) (v := (encO (.at 36 []) (r_8 : NL Int))) (kk := 1000000031) [Enc.enc (aLayout_2 : (List Int))] (ta_cons (v := (Enc.enc (aLayout_2 : List Int))) rfl rfl (Enc.erase_enc (aLayout_2 : (List Int))) ta_nil) (H.c31o _ _ E_r_8) H.g31o rfl toks_encS tag_encO ok_encP (gone_clear (s := s) (pk := [36]) (t := 36) rfl) ?_
      refine g_v (encO (.at 36 []) (r_8 : NL Int)) (ev_mov rfl ok_encO) ?_
      refine g_end ?_
      refine e_home (r := 36) (x := 9) (v := (encO (.at 36 []) (r_8 : NL Int))) (by exact rfl) ok_encO (fun s_4 hg_4 => ?_)
      refine e_end ?_
      refine renew [(1, (Enc.enc (aLayout_2 : List Int))), (2, (.ref (.bx 2) 0 [] (.agg [(.int .i64 aG_1.1), (Enc.enc (aG_1.2 : List (Int × Int)))]))), (4, (.bool false)), (6, (Enc.enc (r_6.1 : List Int))), (7, (.bool r_6.2)), (8, (.ref (.bx 8) 0 [] (.agg [(.int .i64 r_7.1), (encO (.at 34 [1]) (r_7.2 : NL (Int × Int)))]))), (9, (encO (.at 9 []) (r_8 : NL Int)))] ⟨(hg_4 1 (Enc.enc (aLayout_2 : List Int)) (Enc.enc (aLayout_2 : List Int)) (keep_clear (s := s) (pk := [36]) h1 rfl (Enc.map_enc _ (aLayout_2 : List Int))) (Enc.map_enc _ (aLayout_2 : List Int))), (hg_4 2 (.ref (.bx 2) 0 [] (.agg [(.int .i64 aG_1.1), (Enc.enc (aG_1.2 : List (Int × Int)))])) (.ref (.bx 2) 0 [] (.agg [(.int .i64 aG_1.1), (Enc.enc (aG_1.2 : List (Int × Int)))])) (keep_clear (s := s) (pk := [36]) h2 rfl (map_bx rfl (map_agg (maps_cons rfl (maps_cons (Enc.map_enc _ (aG_1.2 : List (Int × Int))) maps_nil))))) (map_bx rfl (map_agg (maps_cons rfl (maps_cons (Enc.map_enc _ (aG_1.2 : List (Int × Int))) maps_nil))))), (hg_4 4 (.bool false) (.bool false) (keep_clear (s := s) (pk := [36]) h4 rfl rfl) rfl), (hg_4 6 (Enc.enc (r_6.1 : List Int)) (Enc.enc (r_6.1 : List Int)) (keep_clear (s := s) (pk := [36]) h6 rfl (Enc.map_enc _ (r_6.1 : List Int))) (Enc.map_enc _ (r_6.1 : List Int))), (hg_4 7 (.bool r_6.2) (.bool r_6.2) (keep_clear (s := s) (pk := [36]) h7 rfl rfl) rfl), (hg_4 8 (.ref (.bx 8) 0 [] (.agg [(.int .i64 r_7.1), (encO (.at 34 [1]) (r_7.2 : NL (Int × Int)))])) (.ref (.bx 8) 0 [] (.agg [(.int .i64 r_7.1), (encO (.at 34 [1]) (r_7.2 : NL (Int × Int)))])) (keep_clear (s := s) (pk := [36]) h8 rfl (map_bx rfl (map_agg (maps_cons rfl (maps_cons (map_encO (r := 34) (p := [1]) rfl rfl) maps_nil))))) (map_bx rfl (map_agg (maps_cons rfl (maps_cons (map_encO (r := 34) (p := [1]) rfl rfl) maps_nil))))), (hg_4 9 (encO (.at 36 []) (r_8 : NL Int)) (encO (.at 9 []) (r_8 : NL Int)) rfl (map_encO (r := 36) (p := []) rfl rfl))⟩ ?_
      rintro s ⟨h1, h2, h4, h6, h7, h8, h9⟩
      refine .nsq ?_
      refine .seq ?_
      refine run_reg ?_
      refine e_clr ?_
      refine e_end ?_
      refine g_v (.agg [(.int .i64 r_7.1), (encO (.at 34 [1]) (r_7.2 : NL (Int × Int)))]) (ev_loadN (c := (.agg [(.int .i64 r_7.1), (encO (.at 34 [1]) (r_7.2 : NL (Int × Int)))])) (keep_clear (s := s) (pk := [40]) h8 rfl (map_bx rfl (map_agg (maps_cons rfl (maps_cons (map_encO (r := 34) (p := [1]) rfl rfl) maps_nil))))) (by simp [V.shape, V.shapes, shape_encP, Sh.beq, Sh.beqs])) ?_
      refine g_v (encO (.at 9 []) (r_8 : NL Int)) (ev_mov (keep_clear (s := s) (pk := [40]) h9 rfl (map_encO (r := 9) (p := []) rfl rfl)) ok_encO) ?_
      obtain ⟨r_9, E_r_9, h⟩ := bind_some h
      refine g_callO (m := 1) (al := false) (r := (.tup [(encO .sh (r_9.1 : NL Int)), (Enc.enc (r_9.2 : Bool))])) (v := (.tup [(encO (.at 40 [0]) (r_9.1 : NL Int)), (.bool r_9.2)])) (kk := 1000000040) [Enc.enc ((r_7.1, r_7.2.list) : (Int × (List (Int × Int)))), Enc.enc (r_8.list : (List Int))] (ta_cons (v := (.agg [(.int .i64 r_7.1), (encO (.at 34 [1]) (r_7.2 : NL (Int × Int)))])) rfl rfl (erase_agg (erases_cons rfl (erases_cons (erase_encO (o := r_7.2)) erases_nil))) (ta_cons (v := (encO (.at 9 []) (r_8 : NL Int))) rfl ok_encP (erase_encO (o := r_8)) ta_nil)) (H.c40o _ _ _ E_r_9) H.g40o rfl (toks_tup (tokss_cons toks_encS (tokss_cons rfl tokss_nil))) (tag_tup (tags_cons tag_encO (tags_cons rfl tags_nil))) rfl (gone_clear (s := s) (pk := [40]) (t := 40) rfl) ?_
      refine g_v1 (t := 40) (u := (.tup [(encO (.at 40 [0]) (r_9.1 : NL Int)), (.bool r_9.2)])) (.tup [(encO (.at 40 [0]) (r_9.1 : NL Int)), (.bool r_9.2)]) rfl rfl rfl ?_
      refine g_v (encO (.at 40 [0]) (r_9.1 : NL Int)) (ev_extN (v := (encO (.at 40 [0]) (r_9.1 : NL Int))) rfl rfl ok_encP) ?_
      refine g_v1 (t := 37) (u := (.tup [(encO (.at 40 [0]) (r_9.1 : NL Int)), (.bool r_9.2)])) (.bool r_9.2) rfl rfl rfl ?_
      refine g_v (encO (.at 40 [0]) (r_9.1 : NL Int)) (ev_mov rfl ok_encO) ?_
      refine g_v1 (t := 42) (u := (.bool r_9.2)) (.bool r_9.2) rfl rfl rfl ?_
      refine g_end ?_
      refine e_home (r := 40) (x := 10) (v := (encO (.at 40 [0]) (r_9.1 : NL Int))) (by exact rfl) ok_encO (fun s_6 hg_6 => ?_)
      refine e_end ?_
      refine renew [(1, (Enc.enc (aLayout_2 : List Int))), (2, (.ref (.bx 2) 0 [] (.agg [(.int .i64 aG_1.1), (Enc.enc (aG_1.2 : List (Int × Int)))]))), (4, (.bool false)), (6, (Enc.enc (r_6.1 : List Int))), (7, (.bool r_6.2)), (8, (.ref (.bx 8) 0 [] (.agg [(.int .i64 r_7.1), (encO (.at 34 [1]) (r_7.2 : NL (Int × Int)))]))), (9, (encO (.at 9 []) (r_8 : NL Int))), (10, (encO (.at 10 [0]) (r_9.1 : NL Int))), (11, (.bool r_9.2))] ⟨(hg_6 1 (Enc.enc (aLayout_2 : List Int)) (Enc.enc (aLayout_2 : List Int)) (keep_clear (s := s) (pk := [40]) h1 rfl (Enc.map_enc _ (aLayout_2 : List Int))) (Enc.map_enc _ (aLayout_2 : List Int))), (hg_6 2 (.ref (.bx 2) 0 [] (.agg [(.int .i64 aG_1.1), (Enc.enc (aG_1.2 : List (Int × Int)))])) (.ref (.bx 2) 0 [] (.agg [(.int .i64 aG_1.1), (Enc.enc (aG_1.2 : List (Int × Int)))])) (keep_clear (s := s) (pk := [40]) h2 rfl (map_bx rfl (map_agg (maps_cons rfl (maps_cons (Enc.map_enc _ (aG_1.2 : List (Int × Int))) maps_nil))))) (map_bx rfl (map_agg (maps_cons rfl (maps_cons (Enc.map_enc _ (aG_1.2 : List (Int × Int))) maps_nil))))), (hg_6 4 (.bool false) (.bool false) (keep_clear (s := s) (pk := [40]) h4 rfl rfl) rfl), (hg_6 6 (Enc.enc (r_6.1 : List Int)) (Enc.enc (r_6.1 : List Int)) (keep_clear (s := s) (pk := [40]) h6 rfl (Enc.map_enc _ (r_6.1 : List Int))) (Enc.map_enc _ (r_6.1 : List Int))), (hg_6 7 (.bool r_6.2) (.bool r_6.2) (keep_clear (s := s) (pk := [40]) h7 rfl rfl) rfl), (hg_6 8 (.ref (.bx 8) 0 [] (.agg [(.int .i64 r_7.1), (encO (.at 34 [1]) (r_7.2 : NL (Int × Int)))])) (.ref (.bx 8) 0 [] (.agg [(.int .i64 r_7.1), (encO (.at 34 [1]) (r_7.2 : NL (Int × Int)))])) (keep_clear (s := s) (pk := [40]) h8 rfl (map_bx rfl (map_agg (maps_cons rfl (maps_cons (map_encO (r := 34) (p := [1]) rfl rfl) maps_nil))))) (map_bx rfl (map_agg (maps_cons rfl (maps_cons (map_encO (r := 34) (p := [1]) rfl rfl) maps_nil))))), (hg_6 9 (encO (.at 9 []) (r_8 : NL Int)) (encO (.at 9 []) (r_8 : NL Int)) (keep_clear (s := s) (pk := [40]) h9 rfl (map_encO (r := 9) (p := []) rfl rfl)) (map_encO (r := 9) (p := []) rfl rfl)), (hg_6 10 (encO (.at 40 [0]) (r_9.1 : NL Int)) (encO (.at 10 [0]) (r_9.1 : NL Int)) rfl (map_encO (r := 40) (p := [0]) rfl rfl)), (hg_6 11 (.bool r_9.2) (.bool r_9.2) rfl rfl)⟩ ?_
      rintro s ⟨h1, h2, h4, h6, h7, h8, h9, h10, h11⟩
      refine .nsq ?_
      refine .seq ?_
      refine .seq ?_
      refine run_reg ?_
      refine e_end ?_
      refine g_v (encO (.at 10 [0]) (r_9.1 : NL Int)) (ev_mov h10 ok_encO) ?_
      refine g_v1 (t := 6) (u := (Enc.enc (r_6.1 : List Int))) (Enc.enc (r_6.1 : List Int)) h6 rfl rfl ?_
      obtain ⟨r_31, E_r_31, h⟩ := bind_some h
      refine g_call (m := 0) (al := false) (r := (Enc.enc (r_31 : Bool))) [Enc.enc (r_9.1.list : (List Int)), Enc.enc (r_6.1 : (List Int))] (ta_cons (v := (encO (.at 10 [0]) (r_9.1 : NL Int))) rfl ok_encP (erase_encO (o := r_9.1)) (ta_cons (v := (Enc.enc (r_6.1 : List Int))) rfl rfl (Enc.erase_enc (r_6.1 : (List Int))) ta_nil)) (H.c19 _ _ _ E_r_31) H.g19 rfl rfl rfl rfl ?_
      refine g_v1 (t := 45) (u := (.bool r_31)) (.bool (!r_31)) rfl rfl rfl ?_
      refine g_v1 (t := 46) (u := (.bool (!r_31))) (.bool (!r_31)) rfl rfl rfl ?_
      refine split_on (c := (!r_31)) h (fun hg5 h => ?_) (fun hg5 h => ?_)
      · refine g_no (Eq.trans (b := .bool (!r_31)) rfl (congrArg V.bool hg5)) ?_
        refine g_no (Eq.trans (b := .bool (!r_31)) rfl (congrArg V.bool hg5)) ?_
        refine g_no (Eq.trans (b := .bool (!r_31)) rfl (congrArg V.bool hg5)) ?_
        refine g_v2 (t1 := 47) (t2 := 50) (u1 := (.bool true)) (u2 := (.tup [])) (.bool true) (Eq.trans (b := .bool (!r_31)) rfl (congrArg V.bool hg5)) rfl rfl rfl ?_
        refine g_end ?_
        refine e_end ?_
        refine renew [(1, (Enc.enc (aLayout_2 : List Int))), (2, (.ref (.bx 2) 0 [] (.agg [(.int .i64 aG_1.1), (Enc.enc (aG_1.2 : List (Int × Int)))]))), (4, (.bool false)), (6, (Enc.enc (r_6.1 : List Int))), (7, (.bool r_6.2)), (8, (.ref (.bx 8) 0 [] (.agg [(.int .i64 r_7.1), (encO (.at 34 [1]) (r_7.2 : NL (Int × Int)))]))), (9, (encO (.at 9 []) (r_8 : NL Int))), (10, (encO (.at 10 [0]) (r_9.1 : NL Int))), (11, (.bool r_9.2)), (51, (.bool true))] ⟨h1, h2, h4, h6, h7, h8, h9, h10, h11, rfl⟩ ?_
        rintro s ⟨h1, h2, h4, h6, h7, h8, h9, h10, h11, h51⟩
        exact t_f11_j3 H aLayout_2 aG_1 r_6 r_7 r_8 r_9 true _ ⟨h1, h2, h4, h6, h7, h8, h9, h10, h11, h51⟩ h
      · refine g_yes (Eq.trans (b := .bool (!r_31)) rfl (congrArg V.bool hg5)) (g_v1 (t := 11) (u := (.bool r_9.2)) (.bool r_9.2) h11 rfl rfl ?_)
        refine g_yes (Eq.trans (b := .bool (!r_31)) rfl (congrArg V.bool hg5)) (g_v1 (t := 7) (u := (.bool r_6.2)) (.bool r_6.2) h7 rfl rfl ?_)
        refine g_yes (Eq.trans (b := .bool (!r_31)) rfl (congrArg V.bool hg5)) (g_v2 (t1 := 48) (t2 := 49) (u1 := (.bool r_9.2)) (u2 := (.bool r_6.2)) (.bool (r_9.2 != r_6.2)) rfl rfl rfl rfl ?_)
        refine g_v2 (t1 := 47) (t2 := 50) (u1 := (.bool false)) (u2 := (.bool (r_9.2 != r_6.2))) (.bool (r_9.2 != r_6.2)) (Eq.trans (b := .bool (!r_31)) rfl (congrArg V.bool hg5)) rfl rfl rfl ?_
        refine g_end ?_
        refine e_end ?_
        refine renew [(1, (Enc.enc (aLayout_2 : List Int))), (2, (.ref (.bx 2) 0 [] (.agg [(.int .i64 aG_1.1), (Enc.enc (aG_1.2 : List (Int × Int)))]))), (4, (.bool false)), (6, (Enc.enc (r_6.1 : List Int))), (7, (.bool r_6.2)), (8, (.ref (.bx 8) 0 [] (.agg [(.int .i64 r_7.1), (encO (.at 34 [1]) (r_7.2 : NL (Int × Int)))]))), (9, (encO (.at 9 []) (r_8 : NL Int))), (10, (encO (.at 10 [0]) (r_9.1 : NL Int))), (11, (.bool r_9.2)), (51, (.bool (r_9.2 != r_6.2)))] ⟨h1, h2, h4, h6, h7, h8, h9, h10, h11, rfl⟩ ?_
        rintro s ⟨h1, h2, h4, h6, h7, h8, h9, h10, h11, h51⟩
        exact t_f11_j3 H aLayout_2 aG_1 r_6 r_7 r_8 r_9 (r_9.2 != r_6.2) _ ⟨h1, h2, h4, h6, h7, h8, h9, h10, h11, h51⟩ h
end
def e11 (F : Nat) : Ent := ⟨11, da (fun (x : ((Int × (List (Int × Int))) × (List Int) × Unit)) => w_FnExactFrontSizes F x.1 x.2.1) (fun (r : Bool) => (Enc.enc (r : Bool))), 0, false, selF []⟩
theorem p11 {F : Nat} {x0 : (Int × (List (Int × Int)))} {x1 : (List Int)} {r : Bool} (h : w_FnExactFrontSizes F x0 x1 = some r) : (e11 F).den [Enc.enc x0, Enc.enc x1] = some (Enc.enc (r : Bool)) := da_put (f := fun (x : ((Int × (List (Int × Int))) × (List Int) × Unit)) => w_FnExactFrontSizes F x.1 x.2.1) (t := fun (r : Bool) => (Enc.enc (r : Bool))) (x0, x1, ()) h
theorem o11 {D : Den} {σ : Sig} {F : Nat} (hF : Fits2 Try.prog D σ) (H : H11 D σ F) : (e11 F).Ok Try.prog := by
  refine ok_of (f := 11) (show unk 11 = 11 from rfl) (fun args r h => ?_) ⟨Try.f11, Try.func11, rfl, rfl⟩
  obtain ⟨⟨x0, x1, _⟩, y, rfl, hy, rfl⟩ := da_open h
  exact contract_run hF (by kernel_rfl) Try.func11 rfl c11 (show 2 ≤ Try.f11.ntmps by decide) (t11 H x0 x1 _ ⟨rfl, rfl⟩ hy)
end Go.Zq
