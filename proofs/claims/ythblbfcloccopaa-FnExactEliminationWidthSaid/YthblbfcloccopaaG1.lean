/- Functions of the program as typed functions, and that the machine runs as they say (part 1). No further condition. -/
import Derived.Test.YthblbfcloccopaaKC
import Derived.Test.YthblbfcloccopaaProg
import Derived.Test.YthblbfcloccopaaChecked
import Derived.KernelRfl
set_option linter.unusedVariables false
set_option linter.unusedSimpArgs false
/- Functions of the program, as typed functions, and that the machine runs as they say. -/
namespace Go.Zq
open Go.Proofs Go.Shelf
/- loop.example/g01109/laws.szIntA2S -/
def A44_3 : AC := (AC.cond (O.t 10) (AC.seq (AC.reg [] [(I.mk (some 4) none false (X.v (A.mov (O.k (V.int IntKind.i64 (Int.negSucc 0))))))] []) AC.ret) AC.skip)
def A44_4 : AC := (AC.seq (AC.reg [] [(I.mk (some 11) none false (X.v (A.mov (O.t 1)))), (I.mk (some 4) none false (X.v (A.mov (O.t 11))))] []) AC.ret)
def A44_2 : AC := (AC.seq (AC.seq (AC.reg [] [(I.mk (some 9) none false (X.v (A.mov (O.t 1)))), (I.mk (some 10) none false (X.v (A.bin BinOp.lss (O.t 9) (O.k (V.int IntKind.i64 (Int.ofNat 0))))))] []) A44_3) A44_4)
def A44_1 : AC := (AC.seq (AC.reg [] [(I.mk (some 5) none false (X.v (A.mov (O.t 1)))), (I.mk (some 6) none false (X.v (A.mov (O.t 0)))), (I.mk (some 7) none false (X.v (A.len (O.t 6)))), (I.mk (some 8) none false (X.v (A.bin BinOp.sub (O.t 5) (O.t 7)))), (I.mk (some 1) none false (X.v (A.mov (O.t 8))))] []) A44_2)
def A44 : AC := (AC.seq (AC.reg [] [(I.mk (some 4) none false (X.v (A.mov (O.k (V.int IntKind.i64 (Int.ofNat 0))))))] []) A44_1)
def an44 : List An := []
theorem c44 : cC Try.prog Try.f44.ntmps an44 (Try.f44.body.getD .skip) = some A44 := by kernel_rfl
structure H44 (D : Den) (σ : Sig) (F : Nat) : Prop where
  mk ::
abbrev R44 (r : Int) : (Nat → V) → Prop := RR Try.prog [.tmp 4] 0 false (Enc.enc (r : Int))
section
variable {D : Den} {σ : Sig} {F : Nat} {r : Int}
def w_szIntA2S (F : Nat) (a_1 : (List (Int × Int))) (left_2 : Int) : Option Int :=
  bif decide ((w64 (left_2 - (a_1.length : Int))) < 0) then
    some (-1)
  else
    some (w64 (left_2 - (a_1.length : Int)))
theorem t44 (H : H44 D σ F) (a_1 : (List (Int × Int))) (left_2 : Int) (s : Nat → V) (hs : Facts [(0, (Enc.enc (a_1 : List (Int × Int)))), (1, (.int .i64 left_2))] s) (h : w_szIntA2S F a_1 left_2 = some r) : Run D σ (R44 r) (.run A44 []) s := by
  unfold w_szIntA2S at h
  obtain ⟨h0, h1⟩ := hs
  refine .seq ?_
  refine run_reg ?_
  refine e_end ?_
  refine g_v0 (.int .i64 0) rfl rfl ?_
  refine g_end ?_
  refine e_end ?_
  refine renew [(0, (Enc.enc (a_1 : List (Int × Int)))), (1, (.int .i64 left_2)), (4, (.int .i64 0))] ⟨h0, h1, rfl⟩ ?_
  rintro s ⟨h0, h1, h4⟩
  refine .nsq ?_
  refine .seq ?_
  refine run_reg ?_
  refine e_end ?_
  refine g_v1 (t := 1) (u := (.int .i64 left_2)) (.int .i64 left_2) h1 rfl rfl ?_
  refine g_v1 (t := 0) (u := (Enc.enc (a_1 : List (Int × Int)))) (Enc.enc (a_1 : List (Int × Int))) h0 rfl rfl ?_
  refine g_v (.int .i64 (a_1.length : Int)) (ev_len (xs := a_1) rfl) ?_
  refine g_v2 (t1 := 5) (t2 := 7) (u1 := (.int .i64 left_2)) (u2 := (.int .i64 (a_1.length : Int))) (.int .i64 (w64 (left_2 - (a_1.length : Int)))) rfl rfl rfl rfl ?_
  refine g_v1 (t := 8) (u := (.int .i64 (w64 (left_2 - (a_1.length : Int))))) (.int .i64 (w64 (left_2 - (a_1.length : Int)))) rfl rfl rfl ?_
  refine g_end ?_
  refine e_end ?_
  refine renew [(1, (.int .i64 (w64 (left_2 - (a_1.length : Int))))), (4, (.int .i64 0))] ⟨rfl, h4⟩ ?_
  rintro s ⟨h1, h4⟩
  refine .nsq ?_
  refine .seq ?_
  refine .seq ?_
  refine run_reg ?_
  refine e_end ?_
  refine g_v1 (t := 1) (u := (.int .i64 (w64 (left_2 - (a_1.length : Int))))) (.int .i64 (w64 (left_2 - (a_1.length : Int)))) h1 rfl rfl ?_
  refine g_v1 (t := 9) (u := (.int .i64 (w64 (left_2 - (a_1.length : Int))))) (.bool (decide ((w64 (left_2 - (a_1.length : Int))) < 0))) rfl rfl rfl ?_
  refine g_end ?_
  refine e_end ?_
  refine renew [(1, (.int .i64 (w64 (left_2 - (a_1.length : Int))))), (4, (.int .i64 0)), (10, (.bool (decide ((w64 (left_2 - (a_1.length : Int))) < 0))))] ⟨h1, h4, rfl⟩ ?_
  rintro s ⟨h1, h4, h10⟩
  refine .nsq ?_
  refine run_cond (t := decide ((w64 (left_2 - (a_1.length : Int))) < 0)) h10 h (fun h => ?_) (fun h => ?_)
  · refine .seq ?_
    refine run_reg ?_
    refine e_end ?_
    refine g_v0 (.int .i64 (-1)) rfl rfl ?_
    refine g_end ?_
    refine e_end ?_
    refine renew [(1, (.int .i64 (w64 (left_2 - (a_1.length : Int))))), (4, (.int .i64 (-1)))] ⟨h1, rfl⟩ ?_
    rintro s ⟨h1, h4⟩
    refine .nsq ?_
    refine .ret ?_
    have hr := Option.some.inj h
    subst hr
    exact rrA (res_tmp h4) rfl
  · refine .skip ?_
    refine .nsq ?_
    refine .seq ?_
    refine run_reg ?_
    refine e_end ?_
    refine g_v1 (t := 1) (u := (.int .i64 (w64 (left_2 - (a_1.length : Int))))) (.int .i64 (w64 (left_2 - (a_1.length : Int)))) h1 rfl rfl ?_
    refine g_v1 (t := 11) (u := (.int .i64 (w64 (left_2 - (a_1.length : Int))))) (.int .i64 (w64 (left_2 - (a_1.length : Int)))) rfl rfl rfl ?_
    refine g_end ?_
    refine e_end ?_
    refine renew [(4, (.int .i64 (w64 (left_2 - (a_1.length : Int)))))] rfl ?_
    rintro s h4
    refine .nsq ?_
    refine .ret ?_
    have hr := Option.some.inj h
    subst hr
    exact rrA (res_tmp h4) rfl
end
def e44 (F : Nat) : Ent := ⟨44, da (fun (x : ((List (Int × Int)) × Int × Unit)) => w_szIntA2S F x.1 x.2.1) (fun (r : Int) => (Enc.enc (r : Int))), 0, false, selF []⟩
theorem p44 {F : Nat} {x0 : (List (Int × Int))} {x1 : Int} {r : Int} (h : w_szIntA2S F x0 x1 = some r) : (e44 F).den [Enc.enc x0, Enc.enc x1] = some (Enc.enc (r : Int)) := da_put (f := fun (x : ((List (Int × Int)) × Int × Unit)) => w_szIntA2S F x.1 x.2.1) (t := fun (r : Int) => (Enc.enc (r : Int))) (x0, x1, ()) h
theorem o44 {D : Den} {σ : Sig} {F : Nat} (hF : Fits2 Try.prog D σ) (H : H44 D σ F) : (e44 F).Ok Try.prog := by
  refine ok_of (f := 44) (show unk 44 = 44 from rfl) (fun args r h => ?_) ⟨Try.f44, Try.func44, rfl, rfl⟩
  obtain ⟨⟨x0, x1, _⟩, y, rfl, hy, rfl⟩ := da_open h
  exact contract_run hF (by kernel_rfl) Try.func44 rfl c44 (show 2 ≤ Try.f44.ntmps by decide) (t44 H x0 x1 _ ⟨rfl, rfl⟩ hy)
/- loop.example/g01109/laws.szGraph -/
def A15_3 : AC := (AC.cond (O.t 10) (AC.seq (AC.reg [] [(I.mk (some 4) none false (X.v (A.mov (O.k (V.int IntKind.i64 (Int.negSucc 0))))))] []) AC.ret) AC.skip)
def A15_4 : AC := (AC.seq (AC.reg [] [(I.mk (some 11) none false (X.v (A.mov (O.t 1)))), (I.mk (some 4) none false (X.v (A.mov (O.t 11))))] []) AC.ret)
def A15_2 : AC := (AC.seq (AC.seq (AC.reg [] [(I.mk (some 9) none false (X.v (A.mov (O.t 1)))), (I.mk (some 10) none false (X.v (A.bin BinOp.lss (O.t 9) (O.k (V.int IntKind.i64 (Int.ofNat 0))))))] []) A15_3) A15_4)
def A15_1 : AC := (AC.seq (AC.reg [] [(I.mk (some 5) none false (X.v (A.fld (O.t 2) 1 1))), (I.mk (some 6) none false (X.v (A.load Sh.p (O.t 5)))), (I.mk (some 7) none false (X.v (A.mov (O.t 1)))), (I.mk (some 8) none false (X.call (O.k (V.fn 44 [] [])) [(O.t 6), (O.t 7)])), (I.mk (some 1) none false (X.v (A.mov (O.t 8))))] []) A15_2)
def A15 : AC := (AC.seq (AC.reg [.clr [2]] [(I.mk (some 2) none false (X.box (O.t 0))), (I.mk (some 4) none false (X.v (A.mov (O.k (V.int IntKind.i64 (Int.ofNat 0))))))] []) A15_1)
def an15 : List An := [{ id := 0, pre := [.clr [2]], ep := [], lin := [], sp := [] }]
theorem c15 : cC Try.prog Try.f15.ntmps an15 (Try.f15.body.getD .skip) = some A15 := by kernel_rfl
structure H15 (D : Den) (σ : Sig) (F : Nat) : Prop where
  c44 : ∀ (x0 : (List (Int × Int))) (x1 : Int) r, w_szIntA2S F x0 x1 = some r → D 44 [Enc.enc x0, Enc.enc x1] = some (Enc.enc (r : Int))
  g44 : σ 44 = some (0, false)
abbrev R15 (r : Int) : (Nat → V) → Prop := RR Try.prog [.tmp 4] 0 false (Enc.enc (r : Int))
section
variable {D : Den} {σ : Sig} {F : Nat} {r : Int}
def w_szGraph (F : Nat) (a_1 : (Int × (List (Int × Int)))) (left_2 : Int) : Option Int :=
  (w_szIntA2S F a_1.2 left_2).bind fun r_3 =>
  bif decide (r_3 < 0) then
    some (-1)
  else
    some r_3
theorem t15 (H : H15 D σ F) (a_1 : (Int × (List (Int × Int)))) (left_2 : Int) (s : Nat → V) (hs : Facts [(0, (.agg [(.int .i64 a_1.1), (Enc.enc (a_1.2 : List (Int × Int)))])), (1, (.int .i64 left_2))] s) (h : w_szGraph F a_1 left_2 = some r) : Run D σ (R15 r) (.run A15 []) s := by
  unfold w_szGraph at h
  obtain ⟨h0, h1⟩ := hs
  refine .seq ?_
  refine run_reg ?_
  refine e_clr ?_
  refine e_end ?_
  refine g_box (.agg [(.int .i64 a_1.1), (Enc.enc (a_1.2 : List (Int × Int)))]) (rd_of (keep_clear (s := s) (pk := [2]) h0 rfl (map_agg (maps_cons rfl (maps_cons (Enc.map_enc _ (a_1.2 : List (Int × Int))) maps_nil)))) rfl) (gone_clear (s := s) (pk := [2]) (t := 2) rfl) rfl ?_
  refine g_v0 (.int .i64 0) rfl rfl ?_
  refine g_end ?_
  refine e_end ?_
  refine renew [(1, (.int .i64 left_2)), (2, (.ref (.bx 2) 0 [] (.agg [(.int .i64 a_1.1), (Enc.enc (a_1.2 : List (Int × Int)))]))), (4, (.int .i64 0))] ⟨(keep_clear (s := s) (pk := [2]) h1 rfl rfl), rfl, rfl⟩ ?_
  rintro s ⟨h1, h2, h4⟩
  refine .nsq ?_
  refine .seq ?_
  refine run_reg ?_
  refine e_end ?_
  refine g_v1 (t := 2) (u := (.ref (.bx 2) 0 [] (.agg [(.int .i64 a_1.1), (Enc.enc (a_1.2 : List (Int × Int)))]))) (.ref (.bx 2) 0 [1] (Enc.enc (a_1.2 : List (Int × Int)))) h2 rfl rfl ?_
  refine g_v1 (t := 5) (u := (.ref (.bx 2) 0 [1] (Enc.enc (a_1.2 : List (Int × Int))))) (Enc.enc (a_1.2 : List (Int × Int))) rfl rfl rfl ?_
  refine g_v1 (t := 1) (u := (.int .i64 left_2)) (.int .i64 left_2) h1 rfl rfl ?_
  obtain ⟨r_3, E_r_3, h⟩ := bind_some h
  refine g_call (m := 0) (al := false) (r := (Enc.enc (r_3 : Int))) [Enc.enc (a_1.2 : (List (Int × Int))), Enc.enc (left_2 : Int)] (ta_cons (v := (Enc.enc (a_1.2 : List (Int × Int)))) rfl rfl (Enc.erase_enc (a_1.2 : (List (Int × Int)))) (ta_cons (v := (.int .i64 left_2)) rfl rfl rfl ta_nil)) (H.c44 _ _ _ E_r_3) H.g44 rfl rfl rfl rfl ?_
  refine g_v1 (t := 8) (u := (.int .i64 r_3)) (.int .i64 r_3) rfl rfl rfl ?_
  refine g_end ?_
  refine e_end ?_
  refine renew [(1, (.int .i64 r_3)), (4, (.int .i64 0))] ⟨rfl, h4⟩ ?_
  rintro s ⟨h1, h4⟩
  refine .nsq ?_
  refine .seq ?_
  refine .seq ?_
  refine run_reg ?_
  refine e_end ?_
  refine g_v1 (t := 1) (u := (.int .i64 r_3)) (.int .i64 r_3) h1 rfl rfl ?_
  refine g_v1 (t := 9) (u := (.int .i64 r_3)) (.bool (decide (r_3 < 0))) rfl rfl rfl ?_
  refine g_end ?_
  refine e_end ?_
  refine renew [(1, (.int .i64 r_3)), (4, (.int .i64 0)), (10, (.bool (decide (r_3 < 0))))] ⟨h1, h4, rfl⟩ ?_
  rintro s ⟨h1, h4, h10⟩
  refine .nsq ?_
  refine run_cond (t := decide (r_3 < 0)) h10 h (fun h => ?_) (fun h => ?_)
  · refine .seq ?_
    refine run_reg ?_
    refine e_end ?_
    refine g_v0 (.int .i64 (-1)) rfl rfl ?_
    refine g_end ?_
    refine e_end ?_
    refine renew [(1, (.int .i64 r_3)), (4, (.int .i64 (-1)))] ⟨h1, rfl⟩ ?_
    rintro s ⟨h1, h4⟩
    refine .nsq ?_
    refine .ret ?_
    have hr := Option.some.inj h
    subst hr
    exact rrA (res_tmp h4) rfl
  · refine .skip ?_
    refine .nsq ?_
    refine .seq ?_
    refine run_reg ?_
    refine e_end ?_
    refine g_v1 (t := 1) (u := (.int .i64 r_3)) (.int .i64 r_3) h1 rfl rfl ?_
    refine g_v1 (t := 11) (u := (.int .i64 r_3)) (.int .i64 r_3) rfl rfl rfl ?_
    refine g_end ?_
    refine e_end ?_
    refine renew [(4, (.int .i64 r_3))] rfl ?_
    rintro s h4
    refine .nsq ?_
    refine .ret ?_
    have hr := Option.some.inj h
    subst hr
    exact rrA (res_tmp h4) rfl
end
def e15 (F : Nat) : Ent := ⟨15, da (fun (x : ((Int × (List (Int × Int))) × Int × Unit)) => w_szGraph F x.1 x.2.1) (fun (r : Int) => (Enc.enc (r : Int))), 0, false, selF []⟩
theorem p15 {F : Nat} {x0 : (Int × (List (Int × Int)))} {x1 : Int} {r : Int} (h : w_szGraph F x0 x1 = some r) : (e15 F).den [Enc.enc x0, Enc.enc x1] = some (Enc.enc (r : Int)) := da_put (f := fun (x : ((Int × (List (Int × Int))) × Int × Unit)) => w_szGraph F x.1 x.2.1) (t := fun (r : Int) => (Enc.enc (r : Int))) (x0, x1, ()) h
theorem o15 {D : Den} {σ : Sig} {F : Nat} (hF : Fits2 Try.prog D σ) (H : H15 D σ F) : (e15 F).Ok Try.prog := by
  refine ok_of (f := 15) (show unk 15 = 15 from rfl) (fun args r h => ?_) ⟨Try.f15, Try.func15, rfl, rfl⟩
  obtain ⟨⟨x0, x1, _⟩, y, rfl, hy, rfl⟩ := da_open h
  exact contract_run hF (by kernel_rfl) Try.func15 rfl c15 (show 2 ≤ Try.f15.ntmps by decide) (t15 H x0 x1 _ ⟨rfl, rfl⟩ hy)
/- loop.example/g01109/laws.toIntA2 -/
def A99_2 : AC := (AC.cond (O.t 6) AC.skip (AC.exit 0))
def A99_4 : AC := (AC.reg [] [(I.mk (some 7) none false (X.v (A.mov (O.t 4)))), (I.mk (some 8) none false (X.v (A.bin BinOp.add (O.t 7) (O.k (V.int IntKind.i64 (Int.ofNat 1)))))), (I.mk (some 4) none false (X.v (A.mov (O.t 8))))] [])
def A99_3 : AC := (AC.seq (AC.block 1 (AC.reg [] [(I.mk (some 9) none false (X.v (A.mov (O.t 4)))), (I.mk (some 10) none false (X.v (A.mov (O.t 4)))), (I.mk (some 11) none false (X.v (A.idxA (O.t 1) (O.t 10) 2 1))), (I.mk (some 12) none false (X.v (A.load Sh.s (O.t 11)))), (I.mk (some 13) none false (X.v (A.idxA (O.t 3) (O.t 9) 2 1))), (I.mk none none false (X.store Sh.s (O.t 13) (O.t 12)))] [])) A99_4)
def A99_1 : AC := (AC.seq (AC.seq (AC.reg [] [(I.mk (some 5) none false (X.v (A.mov (O.t 4)))), (I.mk (some 6) none false (X.v (A.bin BinOp.lss (O.t 5) (O.k (V.int IntKind.i64 (Int.ofNat 2))))))] []) A99_2) A99_3)
def A99_5 : AC := (AC.seq (AC.reg [] [(I.mk (some 14) none false (X.v (A.load (Sh.ag [Sh.s, Sh.s]) (O.t 3)))), (I.mk none none false (X.store (Sh.ag [Sh.s, Sh.s]) (O.t 2) (O.t 14)))] []) AC.ret)
def A99_8 : AC := (AC.block 0 (AC.loop A99_1))
def A99_7 : AC := (AC.seq (AC.seq (AC.reg [] [(I.mk (some 4) none false (X.v (A.mov (O.k (V.int IntKind.i64 (Int.ofNat 0))))))] []) A99_8) A99_5)
def A99_6 : AC := (AC.seq (AC.reg [.clr [3]] [(I.mk (some 3) none false (X.alloc (V.agg [(V.int IntKind.i64 (Int.ofNat 0)), (V.int IntKind.i64 (Int.ofNat 0))])))] []) A99_7)
def A99 : AC := (AC.seq (AC.reg [.clr [1, 2]] [(I.mk (some 1) none false (X.box (O.t 0))), (I.mk (some 2) none false (X.alloc (V.agg [(V.int IntKind.i64 (Int.ofNat 0)), (V.int IntKind.i64 (Int.ofNat 0))])))] []) A99_6)
def an99 : List An := [{ id := 0, pre := [.clr [1, 2]], ep := [], lin := [], sp := [] }, { id := 1, pre := [.clr [3]], ep := [], lin := [], sp := [] }]
theorem c99 : cC Try.prog Try.f99.ntmps an99 (Try.f99.body.getD .skip) = some A99 := by kernel_rfl
structure H99 (D : Den) (σ : Sig) (F : Nat) : Prop where
  mk ::
abbrev R99 (r : (Int × Int)) : (Nat → V) → Prop := RR Try.prog [.cell 2 86] 0 false (Enc.enc (r : (Int × Int)))
section
variable {D : Den} {σ : Sig} {F : Nat} {r : (Int × Int)}
def w_toIntA2_l1 (F : Nat) (a_1 : (Int × Int))  : Nat → Int → Int → Int → Option (Int × Int)
  | 0, _, _, _ => none
  | k + 1, out_2, i_3, out_6 =>
    bif decide (i_3 < 2) then
      (idx [a_1.1, a_1.2] i_3).bind fun e_9 =>
      (idx [out_2, out_6] i_3).bind fun e_10 =>
      (w_toIntA2_l1 F a_1 k) (bif i_3 == 0 then e_9 else out_2) (w64 (i_3 + 1)) (bif i_3 == 1 then e_9 else out_6)
    else
      some (out_2, out_6)
theorem t_f99_l1 (H : H99 D σ F) (a_1 : (Int × Int))  : ∀ (k : Nat) (out_2 : Int) (i_3 : Int) (out_6 : Int) (s : Nat → V), Facts [(1, (.ref (.bx 1) 0 [] (.agg [(.int .i64 a_1.1), (.int .i64 a_1.2)]))), (2, (.ref (.bx 2) 0 [] (.agg [(.int .i64 0), (.int .i64 0)]))), (3, (.ref (.bx 3) 0 [] (.agg [(.int .i64 out_2), (.int .i64 out_6)]))), (4, (.int .i64 i_3))] s → w_toIntA2_l1 F a_1 k out_2 i_3 out_6 = some r → Run D σ (R99 r) (.run A99_1 [.lp A99_1, .bk 0, .sq A99_5]) s := by
  intro k
  induction k with
  | zero => intro out_2 i_3 out_6 s _ h; exact nomatch (h : (none : Option _) = some r)
  | succ k ih =>
    intro out_2 i_3 out_6 s hs h
    rw [w_toIntA2_l1] at h
    obtain ⟨h1, h2, h3, h4⟩ := hs
    refine .seq ?_
    refine .seq ?_
    refine run_reg ?_
    refine e_end ?_
    refine g_v1 (t := 4) (u := (.int .i64 i_3)) (.int .i64 i_3) h4 rfl rfl ?_
    refine g_v1 (t := 5) (u := (.int .i64 i_3)) (.bool (decide (i_3 < 2))) rfl rfl rfl ?_
    refine g_end ?_
    refine e_end ?_
    refine renew [(1, (.ref (.bx 1) 0 [] (.agg [(.int .i64 a_1.1), (.int .i64 a_1.2)]))), (2, (.ref (.bx 2) 0 [] (.agg [(.int .i64 0), (.int .i64 0)]))), (3, (.ref (.bx 3) 0 [] (.agg [(.int .i64 out_2), (.int .i64 out_6)]))), (4, (.int .i64 i_3)), (6, (.bool (decide (i_3 < 2))))] ⟨h1, h2, h3, h4, rfl⟩ ?_
    rintro s ⟨h1, h2, h3, h4, h6⟩
    refine .nsq ?_
    refine run_cond (t := decide (i_3 < 2)) h6 h (fun h => ?_) (fun h => ?_)
    · refine .skip ?_
      refine .nsq ?_
      refine .seq ?_
      refine .block ?_
      refine run_reg ?_
      refine e_end ?_
      refine g_v1 (t := 4) (u := (.int .i64 i_3)) (.int .i64 i_3) h4 rfl rfl ?_
      refine g_v1 (t := 4) (u := (.int .i64 i_3)) (.int .i64 i_3) h4 rfl rfl ?_
      obtain ⟨e_9, E_e_9, h⟩ := bind_some h
      refine g_v (.ref (.bx 1) 0 [i_3.toNat] (.int .i64 e_9)) (ev_idxA (xs := [a_1.1, a_1.2]) (a := e_9) (n := i_3) (q := []) h1 rfl E_e_9 rfl rfl rfl) ?_
      refine g_v1 (t := 11) (u := (.ref (.bx 1) 0 [i_3.toNat] (.int .i64 e_9))) (.int .i64 e_9) rfl rfl rfl ?_
      obtain ⟨e_10, E_e_10, h⟩ := bind_some h
      refine g_v (.ref (.bx 3) 0 [i_3.toNat] (.int .i64 e_10)) (ev_idxA (xs := [out_2, out_6]) (a := e_10) (n := i_3) (q := []) h3 rfl E_e_10 rfl rfl rfl) ?_
      refine g_store (.int .i64 e_9) (rd_of rfl rfl) (rd_of rfl rfl) (by refine ⟨by decide, by decide, rfl, rfl, rfl, ?_⟩; first | rfl | simp [V.toks, V.tokss, Enc.toks_enc]) ?_
      refine g_end ?_
      refine e_end ?_
      refine renew [(1, (.ref (.bx 1) 0 [] (.agg [(.int .i64 a_1.1), (.int .i64 a_1.2)]))), (2, (.ref (.bx 2) 0 [] (.agg [(.int .i64 0), (.int .i64 0)]))), (3, (.ref (.bx 3) 0 [] (.agg [(.int .i64 (bif i_3 == 0 then e_9 else out_2)), (.int .i64 (bif i_3 == 1 then e_9 else out_6))]))), (4, (.int .i64 i_3))] ⟨(keep_mut h1 rfl), (keep_mut h2 rfl), (keep_mut h3 (mut_ix2 E_e_10 rfl)), (keep_mut h4 rfl)⟩ ?_
      rintro s ⟨h1, h2, h3, h4⟩
      refine .nbk ?_
      refine .nsq ?_
      refine run_reg ?_
      refine e_end ?_
      refine g_v1 (t := 4) (u := (.int .i64 i_3)) (.int .i64 i_3) h4 rfl rfl ?_
      refine g_v1 (t := 7) (u := (.int .i64 i_3)) (.int .i64 (w64 (i_3 + 1))) rfl rfl rfl ?_
      refine g_v1 (t := 8) (u := (.int .i64 (w64 (i_3 + 1)))) (.int .i64 (w64 (i_3 + 1))) rfl rfl rfl ?_
      refine g_end ?_
      refine e_end ?_
      refine renew [(1, (.ref (.bx 1) 0 [] (.agg [(.int .i64 a_1.1), (.int .i64 a_1.2)]))), (2, (.ref (.bx 2) 0 [] (.agg [(.int .i64 0), (.int .i64 0)]))), (3, (.ref (.bx 3) 0 [] (.agg [(.int .i64 (bif i_3 == 0 then e_9 else out_2)), (.int .i64 (bif i_3 == 1 then e_9 else out_6))]))), (4, (.int .i64 (w64 (i_3 + 1))))] ⟨h1, h2, h3, rfl⟩ ?_
      rintro s ⟨h1, h2, h3, h4⟩
      refine .nlp ?_
      exact ih (bif i_3 == 0 then e_9 else out_2) (w64 (i_3 + 1)) (bif i_3 == 1 then e_9 else out_6) _ ⟨h1, h2, h3, h4⟩ h
    · refine .exit ?_
      refine .esq ?_
      refine .elp ?_
      refine .ebk ?_
      refine .nsq ?_
      refine .seq ?_
      refine run_reg ?_
      refine e_end ?_
      refine g_v1 (t := 3) (u := (.ref (.bx 3) 0 [] (.agg [(.int .i64 out_2), (.int .i64 out_6)]))) (.agg [(.int .i64 out_2), (.int .i64 out_6)]) h3 rfl rfl ?_
      refine g_store (.agg [(.int .i64 out_2), (.int .i64 out_6)]) (rd_of h2 rfl) (rd_of rfl rfl) (by refine ⟨by decide, by decide, rfl, rfl, rfl, ?_⟩; first | rfl | simp [V.toks, V.tokss, Enc.toks_enc]) ?_
      refine g_end ?_
      refine e_end ?_
      refine renew [(2, (.ref (.bx 2) 0 [] (.agg [(.int .i64 out_2), (.int .i64 out_6)])))] (keep_mut h2 rfl) ?_
      rintro s h2
      refine .nsq ?_
      refine .ret ?_
      have hr := Option.some.inj h
      subst hr
      exact rrA (res_cell h2 (by kernel_rfl)) rfl
def w_toIntA2 (F : Nat) (a_1 : (Int × Int)) : Option (Int × Int) :=
  w_toIntA2_l1 F a_1 F 0 0 0
theorem t99 (H : H99 D σ F) (a_1 : (Int × Int)) (s : Nat → V) (hs : Facts [(0, (.agg [(.int .i64 a_1.1), (.int .i64 a_1.2)]))] s) (h : w_toIntA2 F a_1 = some r) : Run D σ (R99 r) (.run A99 []) s := by
  unfold w_toIntA2 at h
  have h0 := hs
  refine .seq ?_
  refine run_reg ?_
  refine e_clr ?_
  refine e_end ?_
  refine g_box (.agg [(.int .i64 a_1.1), (.int .i64 a_1.2)]) (rd_of (keep_clear (s := s) (pk := [1, 2]) h0 rfl (map_agg (maps_cons rfl (maps_cons rfl maps_nil)))) rfl) (gone_clear (s := s) (pk := [1, 2]) (t := 1) rfl) rfl ?_
  refine g_alloc (gone_clear (s := s) (pk := [1, 2]) (t := 2) rfl) ?_
  refine g_end ?_
  refine e_end ?_
  refine renew [(1, (.ref (.bx 1) 0 [] (.agg [(.int .i64 a_1.1), (.int .i64 a_1.2)]))), (2, (.ref (.bx 2) 0 [] (.agg [(.int .i64 0), (.int .i64 0)])))] ⟨rfl, rfl⟩ ?_
  rintro s ⟨h1, h2⟩
  refine .nsq ?_
  refine .seq ?_
  refine run_reg ?_
  refine e_clr ?_
  refine e_end ?_
  refine g_alloc (gone_clear (s := s) (pk := [3]) (t := 3) rfl) ?_
  refine g_end ?_
  refine e_end ?_
  refine renew [(1, (.ref (.bx 1) 0 [] (.agg [(.int .i64 a_1.1), (.int .i64 a_1.2)]))), (2, (.ref (.bx 2) 0 [] (.agg [(.int .i64 0), (.int .i64 0)]))), (3, (.ref (.bx 3) 0 [] (.agg [(.int .i64 0), (.int .i64 0)])))] ⟨(keep_clear (s := s) (pk := [3]) h1 rfl (map_bx rfl (map_agg (maps_cons rfl (maps_cons rfl maps_nil))))), (keep_clear (s := s) (pk := [3]) h2 rfl (map_bx rfl (map_agg (maps_cons rfl (maps_cons rfl maps_nil))))), rfl⟩ ?_
  rintro s ⟨h1, h2, h3⟩
  refine .nsq ?_
  refine .seq ?_
  refine .seq ?_
  refine run_reg ?_
  refine e_end ?_
  refine g_v0 (.int .i64 0) rfl rfl ?_
  refine g_end ?_
  refine e_end ?_
  refine renew [(1, (.ref (.bx 1) 0 [] (.agg [(.int .i64 a_1.1), (.int .i64 a_1.2)]))), (2, (.ref (.bx 2) 0 [] (.agg [(.int .i64 0), (.int .i64 0)]))), (3, (.ref (.bx 3) 0 [] (.agg [(.int .i64 0), (.int .i64 0)]))), (4, (.int .i64 0))] ⟨h1, h2, h3, rfl⟩ ?_
  rintro s ⟨h1, h2, h3, h4⟩
  refine .nsq ?_
  refine .block ?_
  refine .loop ?_
  exact t_f99_l1 H a_1 F 0 0 0 _ ⟨h1, h2, h3, h4⟩ h
end
def e99 (F : Nat) : Ent := ⟨99, da (fun (x : ((Int × Int) × Unit)) => w_toIntA2 F x.1) (fun (r : (Int × Int)) => (Enc.enc (r : (Int × Int)))), 0, false, selF []⟩
theorem p99 {F : Nat} {x0 : (Int × Int)} {r : (Int × Int)} (h : w_toIntA2 F x0 = some r) : (e99 F).den [Enc.enc x0] = some (Enc.enc (r : (Int × Int))) := da_put (f := fun (x : ((Int × Int) × Unit)) => w_toIntA2 F x.1) (t := fun (r : (Int × Int)) => (Enc.enc (r : (Int × Int)))) (x0, ()) h
theorem o99 {D : Den} {σ : Sig} {F : Nat} (hF : Fits2 Try.prog D σ) (H : H99 D σ F) : (e99 F).Ok Try.prog := by
  refine ok_of (f := 99) (show unk 99 = 99 from rfl) (fun args r h => ?_) ⟨Try.f99, Try.func99, rfl, rfl⟩
  obtain ⟨⟨x0, _⟩, y, rfl, hy, rfl⟩ := da_open h
  exact contract_run hF (by kernel_rfl) Try.func99 rfl c99 (show 1 ≤ Try.f99.ntmps by decide) (t99 H x0 _ rfl hy)
/- loop.example/g01109/laws.toIntA2S -/
def A49_2 : AC := (AC.cond (O.t 11) AC.skip (AC.exit 0))
def A49_4 : AC := (AC.reg [] [(I.mk (some 12) none false (X.v (A.mov (O.t 4)))), (I.mk (some 13) none false (X.v (A.bin BinOp.add (O.t 12) (O.k (V.int IntKind.i64 (Int.ofNat 1)))))), (I.mk (some 4) none false (X.v (A.mov (O.t 13))))] [])
def A49_3 : AC := (AC.seq (AC.block 1 (AC.reg [] [(I.mk (some 14) none false (X.v (A.mov (O.t 3)))), (I.mk (some 15) none false (X.v (A.mov (O.t 4)))), (I.mk (some 16) none false (X.v (A.mov (O.t 0)))), (I.mk (some 17) none false (X.v (A.mov (O.t 4)))), (I.mk (some 18) none false (X.v (A.idx (O.t 16) (O.t 17) 2))), (I.mk (some 19) none false (X.v (A.load (Sh.ag [Sh.s, Sh.s]) (O.t 18)))), (I.mk (some 20) none false (X.call (O.k (V.fn 99 [] [])) [(O.t 19)])), (I.mk (some 21) none false (X.v (A.idx (O.t 14) (O.t 15) 2))), (I.mk none none false (X.store (Sh.ag [Sh.s, Sh.s]) (O.t 21) (O.t 20)))] [])) A49_4)
def A49_1 : AC := (AC.seq (AC.seq (AC.reg [] [(I.mk (some 8) none false (X.v (A.mov (O.t 4)))), (I.mk (some 9) none false (X.v (A.mov (O.t 0)))), (I.mk (some 10) none false (X.v (A.len (O.t 9)))), (I.mk (some 11) none false (X.v (A.bin BinOp.lss (O.t 8) (O.t 10))))] []) A49_2) A49_3)
def A49_5 : AC := (AC.seq (AC.reg [] [(I.mk (some 22) none false (X.v (A.mov (O.t 3)))), (I.mk (some 2) none false (X.v (A.mov (O.t 22))))] [.home 3 2]) AC.ret)
def A49_8 : AC := (AC.block 0 (AC.loop A49_1))
def A49_7 : AC := (AC.seq (AC.seq (AC.reg [] [(I.mk (some 4) none false (X.v (A.mov (O.k (V.int IntKind.i64 (Int.ofNat 0))))))] []) A49_8) A49_5)
def A49_6 : AC := (AC.seq (AC.reg [.clr [7]] [(I.mk (some 5) none false (X.v (A.mov (O.t 0)))), (I.mk (some 6) none false (X.v (A.len (O.t 5)))), (I.mk (some 7) none false (X.mk (O.t 6) (V.agg [(V.int IntKind.i64 (Int.ofNat 0)), (V.int IntKind.i64 (Int.ofNat 0))]))), (I.mk (some 3) none false (X.v (A.mov (O.t 7))))] [.home 7 3]) A49_7)
def A49 : AC := (AC.seq (AC.reg [] [(I.mk (some 2) none false (X.v (A.mov (O.k (V.sl Tok.nl (Sh.ag [Sh.s, Sh.s]) 0 [])))))] []) A49_6)
def an49 : List An := [{ id := 1, pre := [.clr [7]], ep := [.home 7 3], lin := [], sp := [] }, { id := 6, pre := [], ep := [.home 3 2], lin := [], sp := [] }]
theorem c49 : cC Try.prog Try.f49.ntmps an49 (Try.f49.body.getD .skip) = some A49 := by kernel_rfl
structure H49 (D : Den) (σ : Sig) (F : Nat) : Prop where
  c99 : ∀ (x0 : (Int × Int)) r, w_toIntA2 F x0 = some r → D 99 [Enc.enc x0] = some (Enc.enc (r : (Int × Int)))
  g99 : σ 99 = some (0, false)
abbrev R49 (r : (List (Int × Int))) : (Nat → V) → Prop := RR Try.prog [.tmp 2] 0 false (Enc.enc (r : (List (Int × Int))))
section
variable {D : Den} {σ : Sig} {F : Nat} {r : (List (Int × Int))}
def w_toIntA2S_l1 (F : Nat) (a_1 : (List (Int × Int)))  : Nat → (List (Int × Int)) → Int → Option (List (Int × Int))
  | 0, _, _ => none
  | k + 1, out_6, i_7 =>
    bif decide (i_7 < (a_1.length : Int)) then
      (idx a_1 i_7).bind fun e_11 =>
      (w_toIntA2 F e_11).bind fun r_12 =>
      (idx out_6 i_7).bind fun e_13 =>
      (w_toIntA2S_l1 F a_1 k) (out_6.set i_7.toNat r_12) (w64 (i_7 + 1))
    else
      some out_6
theorem t_f49_l1 (H : H49 D σ F) (a_1 : (List (Int × Int)))  : ∀ (k : Nat) (out_6 : (List (Int × Int))) (i_7 : Int) (s : Nat → V), Facts [(0, (Enc.enc (a_1 : List (Int × Int)))), (2, (.sl .nl (Enc.shp (Int × Int)) 0 [])), (3, (encO (.at 3 []) (.of (out_6 : List (Int × Int))))), (4, (.int .i64 i_7))] s → w_toIntA2S_l1 F a_1 k out_6 i_7 = some r → Run D σ (R49 r) (.run A49_1 [.lp A49_1, .bk 0, .sq A49_5]) s := by
  intro k
  induction k with
  | zero => intro out_6 i_7 s _ h; exact nomatch (h : (none : Option _) = some r)
  | succ k ih =>
    intro out_6 i_7 s hs h
    rw [w_toIntA2S_l1] at h
    obtain ⟨h0, h2, h3, h4⟩ := hs
    refine .seq ?_
    refine .seq ?_
    refine run_reg ?_
    refine e_end ?_
    refine g_v1 (t := 4) (u := (.int .i64 i_7)) (.int .i64 i_7) h4 rfl rfl ?_
    refine g_v1 (t := 0) (u := (Enc.enc (a_1 : List (Int × Int)))) (Enc.enc (a_1 : List (Int × Int))) h0 rfl rfl ?_
    refine g_v (.int .i64 (a_1.length : Int)) (ev_len (xs := a_1) rfl) ?_
    refine g_v2 (t1 := 8) (t2 := 10) (u1 := (.int .i64 i_7)) (u2 := (.int .i64 (a_1.length : Int))) (.bool (decide (i_7 < (a_1.length : Int)))) rfl rfl rfl rfl ?_
    refine g_end ?_
    refine e_end ?_
    refine renew [(0, (Enc.enc (a_1 : List (Int × Int)))), (2, (.sl .nl (Enc.shp (Int × Int)) 0 [])), (3, (encO (.at 3 []) (.of (out_6 : List (Int × Int))))), (4, (.int .i64 i_7)), (11, (.bool (decide (i_7 < (a_1.length : Int)))))] ⟨h0, h2, h3, h4, rfl⟩ ?_
    rintro s ⟨h0, h2, h3, h4, h11⟩
    refine .nsq ?_
    refine run_cond (t := decide (i_7 < (a_1.length : Int))) h11 h (fun h => ?_) (fun h => ?_)
    · refine .skip ?_
      refine .nsq ?_
      refine .seq ?_
      refine .block ?_
      refine run_reg ?_
      refine e_end ?_
      refine g_v1 (t := 3) (u := (encO (.at 3 []) (.of (out_6 : List (Int × Int))))) (encO (.at 3 []) (.of (out_6 : List (Int × Int)))) h3 rfl rfl ?_
      refine g_v1 (t := 4) (u := (.int .i64 i_7)) (.int .i64 i_7) h4 rfl rfl ?_
      refine g_v1 (t := 0) (u := (Enc.enc (a_1 : List (Int × Int)))) (Enc.enc (a_1 : List (Int × Int))) h0 rfl rfl ?_
      refine g_v1 (t := 4) (u := (.int .i64 i_7)) (.int .i64 i_7) h4 rfl rfl ?_
      obtain ⟨e_11, E_e_11, h⟩ := bind_some h
      refine g_v (.ref .sh 0 [] (.agg [(.int .i64 e_11.1), (.int .i64 e_11.2)])) (ev_idx (t := .sh) (lo := 0) (xs := a_1) rfl rfl E_e_11 rfl rfl) ?_
      refine g_v1 (t := 18) (u := (.ref .sh 0 [] (.agg [(.int .i64 e_11.1), (.int .i64 e_11.2)]))) (.agg [(.int .i64 e_11.1), (.int .i64 e_11.2)]) rfl rfl rfl ?_
      obtain ⟨r_12, E_r_12, h⟩ := bind_some h
      refine g_call (m := 0) (al := false) (r := (Enc.enc (r_12 : (Int × Int)))) [Enc.enc (e_11 : (Int × Int))] (ta_cons (v := (.agg [(.int .i64 e_11.1), (.int .i64 e_11.2)])) rfl rfl (Enc.erase_enc (e_11 : (Int × Int))) ta_nil) (H.c99 _ _ E_r_12) H.g99 rfl rfl rfl rfl ?_
      obtain ⟨e_13, E_e_13, h⟩ := bind_some h
      refine g_v (.ref (.at 3 []) i_7.toNat [] (.agg [(.int .i64 e_13.1), (.int .i64 e_13.2)])) (ev_idxO (o := (.of out_6)) rfl rfl E_e_13 rfl) ?_
      refine g_store (.agg [(.int .i64 r_12.1), (.int .i64 r_12.2)]) (rd_of rfl rfl) (rd_of rfl rfl) (by refine ⟨by decide, by decide, rfl, rfl, rfl, ?_⟩; first | rfl | simp [V.toks, V.tokss, Enc.toks_enc]) ?_
      refine g_end ?_
      refine e_end ?_
      refine renew [(0, (Enc.enc (a_1 : List (Int × Int)))), (2, (.sl .nl (Enc.shp (Int × Int)) 0 [])), (3, (encO (.at 3 []) (.of (out_6.set i_7.toNat r_12 : List (Int × Int))))), (4, (.int .i64 i_7))] ⟨(keep_mut h0 (Enc.mut_enc _ _ _ _ (a_1 : List (Int × Int)))), (keep_mut h2 rfl), (keep_mut h3 mut_own), (keep_mut h4 rfl)⟩ ?_
      rintro s ⟨h0, h2, h3, h4⟩
      refine .nbk ?_
      refine .nsq ?_
      refine run_reg ?_
      refine e_end ?_
      refine g_v1 (t := 4) (u := (.int .i64 i_7)) (.int .i64 i_7) h4 rfl rfl ?_
      refine g_v1 (t := 12) (u := (.int .i64 i_7)) (.int .i64 (w64 (i_7 + 1))) rfl rfl rfl ?_
      refine g_v1 (t := 13) (u := (.int .i64 (w64 (i_7 + 1)))) (.int .i64 (w64 (i_7 + 1))) rfl rfl rfl ?_
      refine g_end ?_
      refine e_end ?_
      refine renew [(0, (Enc.enc (a_1 : List (Int × Int)))), (2, (.sl .nl (Enc.shp (Int × Int)) 0 [])), (3, (encO (.at 3 []) (.of (out_6.set i_7.toNat r_12 : List (Int × Int))))), (4, (.int .i64 (w64 (i_7 + 1))))] ⟨h0, h2, h3, rfl⟩ ?_
      rintro s ⟨h0, h2, h3, h4⟩
      refine .nlp ?_
      exact ih (out_6.set i_7.toNat r_12) (w64 (i_7 + 1)) _ ⟨h0, h2, h3, h4⟩ h
    · refine .exit ?_
      refine .esq ?_
      refine .elp ?_
      refine .ebk ?_
      refine .nsq ?_
      refine .seq ?_
      refine run_reg ?_
      refine e_end ?_
      refine g_v1 (t := 3) (u := (encO (.at 3 []) (.of (out_6 : List (Int × Int))))) (encO (.at 3 []) (.of (out_6 : List (Int × Int)))) h3 rfl rfl ?_
      refine g_v1 (t := 22) (u := (encO (.at 3 []) (.of (out_6 : List (Int × Int))))) (encO (.at 3 []) (.of (out_6 : List (Int × Int)))) rfl rfl rfl ?_
      refine g_end ?_
      refine e_home (r := 3) (x := 2) (v := (encO (.at 3 []) (.of (out_6 : List (Int × Int))))) (by exact rfl) rfl (fun s_3 hg_3 => ?_)
      refine e_end ?_
      refine renew [(2, (encO (.at 2 []) (.of (out_6 : List (Int × Int)))))] (hg_3 2 (encO (.at 3 []) (.of (out_6 : List (Int × Int)))) (encO (.at 2 []) (.of (out_6 : List (Int × Int)))) rfl (map_encO (r := 3) (p := []) rfl rfl)) ?_
      rintro s h2
      refine .nsq ?_
      refine .ret ?_
      have hr := Option.some.inj h
      subst hr
      exact rrA (res_tmp h2) (fin_retF (fin_own (o := .of out_6)) (mine_own rfl))
def w_toIntA2S (F : Nat) (a_1 : (List (Int × Int))) : Option (List (Int × Int)) :=
  (mkN (a_1.length : Int) (0, 0)).bind fun mk_2 =>
  w_toIntA2S_l1 F a_1 F mk_2 0
theorem t49 (H : H49 D σ F) (a_1 : (List (Int × Int))) (s : Nat → V) (hs : Facts [(0, (Enc.enc (a_1 : List (Int × Int))))] s) (h : w_toIntA2S F a_1 = some r) : Run D σ (R49 r) (.run A49 []) s := by
  unfold w_toIntA2S at h
  have h0 := hs
  refine .seq ?_
  refine run_reg ?_
  refine e_end ?_
  refine g_v0 (.sl .nl (Enc.shp (Int × Int)) 0 []) rfl rfl ?_
  refine g_end ?_
  refine e_end ?_
  refine renew [(0, (Enc.enc (a_1 : List (Int × Int)))), (2, (.sl .nl (Enc.shp (Int × Int)) 0 []))] ⟨h0, rfl⟩ ?_
  rintro s ⟨h0, h2⟩
  refine .nsq ?_
  refine .seq ?_
  refine run_reg ?_
  refine e_clr ?_
  refine e_end ?_
  refine g_v1 (t := 0) (u := (Enc.enc (a_1 : List (Int × Int)))) (Enc.enc (a_1 : List (Int × Int))) (keep_clear (s := s) (pk := [7]) h0 rfl (Enc.map_enc _ (a_1 : List (Int × Int)))) rfl rfl ?_
  refine g_v (.int .i64 (a_1.length : Int)) (ev_len (xs := a_1) rfl) ?_
  obtain ⟨mk_2, E_mk_2, h⟩ := bind_some h
  refine g_mk ((0, 0) : (Int × Int)) rfl rfl (gone_clear (s := s) (pk := [7]) (t := 7) rfl) E_mk_2 ?_
  refine g_v1 (t := 7) (u := (encO (.at 7 []) (.of (mk_2 : List (Int × Int))))) (encO (.at 7 []) (.of (mk_2 : List (Int × Int)))) rfl rfl rfl ?_
  refine g_end ?_
  refine e_home (r := 7) (x := 3) (v := (encO (.at 7 []) (.of (mk_2 : List (Int × Int))))) (by exact rfl) rfl (fun s_2 hg_2 => ?_)
  refine e_end ?_
  refine renew [(0, (Enc.enc (a_1 : List (Int × Int)))), (2, (.sl .nl (Enc.shp (Int × Int)) 0 [])), (3, (encO (.at 3 []) (.of (mk_2 : List (Int × Int)))))] ⟨(hg_2 0 (Enc.enc (a_1 : List (Int × Int))) (Enc.enc (a_1 : List (Int × Int))) (keep_clear (s := s) (pk := [7]) h0 rfl (Enc.map_enc _ (a_1 : List (Int × Int)))) (Enc.map_enc _ (a_1 : List (Int × Int)))), (hg_2 2 (.sl .nl (Enc.shp (Int × Int)) 0 []) (.sl .nl (Enc.shp (Int × Int)) 0 []) (keep_clear (s := s) (pk := [7]) h2 rfl rfl) rfl), (hg_2 3 (encO (.at 7 []) (.of (mk_2 : List (Int × Int)))) (encO (.at 3 []) (.of (mk_2 : List (Int × Int)))) rfl (map_encO (r := 7) (p := []) rfl rfl))⟩ ?_
  rintro s ⟨h0, h2, h3⟩
  refine .nsq ?_
  refine .seq ?_
  refine .seq ?_
  refine run_reg ?_
  refine e_end ?_
  refine g_v0 (.int .i64 0) rfl rfl ?_
  refine g_end ?_
  refine e_end ?_
  refine renew [(0, (Enc.enc (a_1 : List (Int × Int)))), (2, (.sl .nl (Enc.shp (Int × Int)) 0 [])), (3, (encO (.at 3 []) (.of (mk_2 : List (Int × Int))))), (4, (.int .i64 0))] ⟨h0, h2, h3, rfl⟩ ?_
  rintro s ⟨h0, h2, h3, h4⟩
  refine .nsq ?_
  refine .block ?_
  refine .loop ?_
  exact t_f49_l1 H a_1 F mk_2 0 _ ⟨h0, h2, h3, h4⟩ h
end
def e49 (F : Nat) : Ent := ⟨49, da (fun (x : ((List (Int × Int)) × Unit)) => w_toIntA2S F x.1) (fun (r : (List (Int × Int))) => (Enc.enc (r : (List (Int × Int))))), 0, false, selF []⟩
theorem p49 {F : Nat} {x0 : (List (Int × Int))} {r : (List (Int × Int))} (h : w_toIntA2S F x0 = some r) : (e49 F).den [Enc.enc x0] = some (Enc.enc (r : (List (Int × Int)))) := da_put (f := fun (x : ((List (Int × Int)) × Unit)) => w_toIntA2S F x.1) (t := fun (r : (List (Int × Int))) => (Enc.enc (r : (List (Int × Int))))) (x0, ()) h
theorem o49 {D : Den} {σ : Sig} {F : Nat} (hF : Fits2 Try.prog D σ) (H : H49 D σ F) : (e49 F).Ok Try.prog := by
  refine ok_of (f := 49) (show unk 49 = 49 from rfl) (fun args r h => ?_) ⟨Try.f49, Try.func49, rfl, rfl⟩
  obtain ⟨⟨x0, _⟩, y, rfl, hy, rfl⟩ := da_open h
  exact contract_run hF (by kernel_rfl) Try.func49 rfl c49 (show 1 ≤ Try.f49.ntmps by decide) (t49 H x0 _ rfl hy)
/- loop.example/g01109/laws.toGraph -/
def A17_4 : AC := (AC.seq (AC.reg [] [(I.mk (some 11) none false (X.v (A.load (Sh.ag [Sh.s, Sh.p]) (O.t 3)))), (I.mk none none false (X.store (Sh.ag [Sh.s, Sh.p]) (O.t 2) (O.t 11)))] []) AC.ret)
def A17_3 : AC := (AC.seq (AC.reg [] [(I.mk (some 7) none false (X.v (A.fld (O.t 1) 1 1))), (I.mk (some 8) none false (X.v (A.load Sh.p (O.t 7)))), (I.mk (some 9) none false (X.call (O.k (V.fn 49 [] [])) [(O.t 8)])), (I.mk (some 10) none false (X.v (A.fld (O.t 3) 1 1))), (I.mk none none false (X.store Sh.p (O.t 10) (O.t 9)))] []) A17_4)
def A17_2 : AC := (AC.seq (AC.reg [] [(I.mk (some 4) none false (X.v (A.fld (O.t 1) 0 0))), (I.mk (some 5) none false (X.v (A.load Sh.s (O.t 4)))), (I.mk (some 6) none false (X.v (A.fld (O.t 3) 0 0))), (I.mk none none false (X.store Sh.s (O.t 6) (O.t 5)))] []) A17_3)
def A17_1 : AC := (AC.seq (AC.reg [.clr [3]] [(I.mk (some 3) none false (X.alloc (V.agg [(V.int IntKind.i64 (Int.ofNat 0)), (V.sl Tok.nl (Sh.ag [Sh.s, Sh.s]) 0 [])])))] []) A17_2)
def A17 : AC := (AC.seq (AC.reg [.clr [1, 2]] [(I.mk (some 1) none false (X.box (O.t 0))), (I.mk (some 2) none false (X.alloc (V.agg [(V.int IntKind.i64 (Int.ofNat 0)), (V.sl Tok.nl (Sh.ag [Sh.s, Sh.s]) 0 [])])))] []) A17_1)
def an17 : List An := [{ id := 0, pre := [.clr [1, 2]], ep := [], lin := [], sp := [] }, { id := 1, pre := [.clr [3]], ep := [], lin := [], sp := [] }]
theorem c17 : cC Try.prog Try.f17.ntmps an17 (Try.f17.body.getD .skip) = some A17 := by kernel_rfl
structure H17 (D : Den) (σ : Sig) (F : Nat) : Prop where
  c49 : ∀ (x0 : (List (Int × Int))) r, w_toIntA2S F x0 = some r → D 49 [Enc.enc x0] = some (Enc.enc (r : (List (Int × Int))))
  g49 : σ 49 = some (0, false)
abbrev R17 (r : (Int × (List (Int × Int)))) : (Nat → V) → Prop := RR Try.prog [.cell 2 29] 0 true (Enc.enc (r : (Int × (List (Int × Int)))))
section
variable {D : Den} {σ : Sig} {F : Nat} {r : (Int × (List (Int × Int)))}
def w_toGraph (F : Nat) (a_1 : (Int × (List (Int × Int)))) : Option (Int × (List (Int × Int))) :=
  (w_toIntA2S F a_1.2).bind fun r_2 =>
  some (a_1.1, r_2)
theorem t17 (H : H17 D σ F) (a_1 : (Int × (List (Int × Int)))) (s : Nat → V) (hs : Facts [(0, (.agg [(.int .i64 a_1.1), (Enc.enc (a_1.2 : List (Int × Int)))]))] s) (h : w_toGraph F a_1 = some r) : Run D σ (R17 r) (.run A17 []) s := by
  unfold w_toGraph at h
  have h0 := hs
  refine .seq ?_
  refine run_reg ?_
  refine e_clr ?_
  refine e_end ?_
  refine g_box (.agg [(.int .i64 a_1.1), (Enc.enc (a_1.2 : List (Int × Int)))]) (rd_of (keep_clear (s := s) (pk := [1, 2]) h0 rfl (map_agg (maps_cons rfl (maps_cons (Enc.map_enc _ (a_1.2 : List (Int × Int))) maps_nil)))) rfl) (gone_clear (s := s) (pk := [1, 2]) (t := 1) rfl) rfl ?_
  refine g_alloc (gone_clear (s := s) (pk := [1, 2]) (t := 2) rfl) ?_
  refine g_end ?_
  refine e_end ?_
  refine renew [(1, (.ref (.bx 1) 0 [] (.agg [(.int .i64 a_1.1), (Enc.enc (a_1.2 : List (Int × Int)))]))), (2, (.ref (.bx 2) 0 [] (.agg [(.int .i64 0), (.sl .nl (Enc.shp (Int × Int)) 0 [])])))] ⟨rfl, rfl⟩ ?_
  rintro s ⟨h1, h2⟩
  refine .nsq ?_
  refine .seq ?_
  refine run_reg ?_
  refine e_clr ?_
  refine e_end ?_
  refine g_alloc (gone_clear (s := s) (pk := [3]) (t := 3) rfl) ?_
  refine g_end ?_
  refine e_end ?_
  refine renew [(1, (.ref (.bx 1) 0 [] (.agg [(.int .i64 a_1.1), (Enc.enc (a_1.2 : List (Int × Int)))]))), (2, (.ref (.bx 2) 0 [] (.agg [(.int .i64 0), (.sl .nl (Enc.shp (Int × Int)) 0 [])]))), (3, (.ref (.bx 3) 0 [] (.agg [(.int .i64 0), (.sl .nl (Enc.shp (Int × Int)) 0 [])])))] ⟨(keep_clear (s := s) (pk := [3]) h1 rfl (map_bx rfl (map_agg (maps_cons rfl (maps_cons (Enc.map_enc _ (a_1.2 : List (Int × Int))) maps_nil))))), (keep_clear (s := s) (pk := [3]) h2 rfl (map_bx rfl (map_agg (maps_cons rfl (maps_cons rfl maps_nil))))), rfl⟩ ?_
  rintro s ⟨h1, h2, h3⟩
  refine .nsq ?_
  refine .seq ?_
  refine run_reg ?_
  refine e_end ?_
  refine g_v1 (t := 1) (u := (.ref (.bx 1) 0 [] (.agg [(.int .i64 a_1.1), (Enc.enc (a_1.2 : List (Int × Int)))]))) (.ref (.bx 1) 0 [0] (.int .i64 a_1.1)) h1 rfl rfl ?_
  refine g_v1 (t := 4) (u := (.ref (.bx 1) 0 [0] (.int .i64 a_1.1))) (.int .i64 a_1.1) rfl rfl rfl ?_
  refine g_v1 (t := 3) (u := (.ref (.bx 3) 0 [] (.agg [(.int .i64 0), (.sl .nl (Enc.shp (Int × Int)) 0 [])]))) (.ref (.bx 3) 0 [0] (.int .i64 0)) h3 rfl rfl ?_
  refine g_store (.int .i64 a_1.1) (rd_of rfl rfl) (rd_of rfl rfl) (by refine ⟨by decide, by decide, rfl, rfl, rfl, ?_⟩; first | rfl | simp [V.toks, V.tokss, Enc.toks_enc]) ?_
  refine g_end ?_
  refine e_end ?_
  refine renew [(1, (.ref (.bx 1) 0 [] (.agg [(.int .i64 a_1.1), (Enc.enc (a_1.2 : List (Int × Int)))]))), (2, (.ref (.bx 2) 0 [] (.agg [(.int .i64 0), (.sl .nl (Enc.shp (Int × Int)) 0 [])]))), (3, (.ref (.bx 3) 0 [] (.agg [(.int .i64 a_1.1), (.sl .nl (Enc.shp (Int × Int)) 0 [])])))] ⟨(keep_mut h1 (mut_ref_ne rfl rfl (mut_agg (muts_cons rfl (muts_cons (Enc.mut_enc _ _ _ _ (a_1.2 : List (Int × Int))) rfl))))), (keep_mut h2 (mut_ref_ne rfl rfl (mut_agg (muts_cons rfl (muts_cons rfl rfl))))), (keep_mut h3 rfl)⟩ ?_
  rintro s ⟨h1, h2, h3⟩
  refine .nsq ?_
  refine .seq ?_
  refine run_reg ?_
  refine e_end ?_
  refine g_v1 (t := 1) (u := (.ref (.bx 1) 0 [] (.agg [(.int .i64 a_1.1), (Enc.enc (a_1.2 : List (Int × Int)))]))) (.ref (.bx 1) 0 [1] (Enc.enc (a_1.2 : List (Int × Int)))) h1 rfl rfl ?_
  refine g_v1 (t := 7) (u := (.ref (.bx 1) 0 [1] (Enc.enc (a_1.2 : List (Int × Int))))) (Enc.enc (a_1.2 : List (Int × Int))) rfl rfl rfl ?_
  obtain ⟨r_2, E_r_2, h⟩ := bind_some h
  refine g_call (m := 0) (al := false) (r := (Enc.enc (r_2 : (List (Int × Int))))) [Enc.enc (a_1.2 : (List (Int × Int)))] (ta_cons (v := (Enc.enc (a_1.2 : List (Int × Int)))) rfl rfl (Enc.erase_enc (a_1.2 : (List (Int × Int)))) ta_nil) (H.c49 _ _ E_r_2) H.g49 rfl rfl rfl rfl ?_
  refine g_v1 (t := 3) (u := (.ref (.bx 3) 0 [] (.agg [(.int .i64 a_1.1), (.sl .nl (Enc.shp (Int × Int)) 0 [])]))) (.ref (.bx 3) 0 [1] (.sl .nl (Enc.shp (Int × Int)) 0 [])) h3 rfl rfl ?_
  refine g_store (Enc.enc (r_2 : List (Int × Int))) (rd_of rfl rfl) (rd_of rfl rfl) (by refine ⟨by decide, by decide, rfl, rfl, rfl, ?_⟩; first | rfl | simp [V.toks, V.tokss, Enc.toks_enc]) ?_
  refine g_end ?_
  refine e_end ?_
  refine renew [(2, (.ref (.bx 2) 0 [] (.agg [(.int .i64 0), (.sl .nl (Enc.shp (Int × Int)) 0 [])]))), (3, (.ref (.bx 3) 0 [] (.agg [(.int .i64 a_1.1), (Enc.enc (r_2 : List (Int × Int)))])))] ⟨(keep_mut h2 (mut_ref_ne rfl rfl (mut_agg (muts_cons rfl (muts_cons rfl rfl))))), (keep_mut h3 rfl)⟩ ?_
  rintro s ⟨h2, h3⟩
  refine .nsq ?_
  refine .seq ?_
  refine run_reg ?_
  refine e_end ?_
  refine g_v1 (t := 3) (u := (.ref (.bx 3) 0 [] (.agg [(.int .i64 a_1.1), (Enc.enc (r_2 : List (Int × Int)))]))) (.agg [(.int .i64 a_1.1), (Enc.enc (r_2 : List (Int × Int)))]) h3 rfl rfl ?_
  refine g_store (.agg [(.int .i64 a_1.1), (Enc.enc (r_2 : List (Int × Int)))]) (rd_of h2 rfl) (rd_of rfl rfl) (by refine ⟨by decide, by decide, rfl, rfl, rfl, ?_⟩; first | rfl | simp [V.toks, V.tokss, Enc.toks_enc]) ?_
  refine g_end ?_
  refine e_end ?_
  refine renew [(2, (.ref (.bx 2) 0 [] (.agg [(.int .i64 a_1.1), (Enc.enc (r_2 : List (Int × Int)))])))] (keep_mut h2 rfl) ?_
  rintro s h2
  refine .nsq ?_
  refine .ret ?_
  have hr := Option.some.inj h
  subst hr
  exact rrA (res_cell h2 (by kernel_rfl)) (fin_ret1 (fin_enc (x := ((a_1.1, r_2) : (Int × (List (Int × Int)))))))
end
def e17 (F : Nat) : Ent := ⟨17, da (fun (x : ((Int × (List (Int × Int))) × Unit)) => w_toGraph F x.1) (fun (r : (Int × (List (Int × Int)))) => (Enc.enc (r : (Int × (List (Int × Int)))))), 0, true, selF []⟩
theorem p17 {F : Nat} {x0 : (Int × (List (Int × Int)))} {r : (Int × (List (Int × Int)))} (h : w_toGraph F x0 = some r) : (e17 F).den [Enc.enc x0] = some (Enc.enc (r : (Int × (List (Int × Int))))) := da_put (f := fun (x : ((Int × (List (Int × Int))) × Unit)) => w_toGraph F x.1) (t := fun (r : (Int × (List (Int × Int)))) => (Enc.enc (r : (Int × (List (Int × Int)))))) (x0, ()) h
theorem o17 {D : Den} {σ : Sig} {F : Nat} (hF : Fits2 Try.prog D σ) (H : H17 D σ F) : (e17 F).Ok Try.prog := by
  refine ok_of (f := 17) (show unk 17 = 17 from rfl) (fun args r h => ?_) ⟨Try.f17, Try.func17, rfl, rfl⟩
  obtain ⟨⟨x0, _⟩, y, rfl, hy, rfl⟩ := da_open h
  exact contract_run hF (by kernel_rfl) Try.func17 rfl c17 (show 1 ≤ Try.f17.ntmps by decide) (t17 H x0 _ rfl hy)
/- loop.example/g01109/laws.toIntS -/
def A18_2 : AC := (AC.cond (O.t 11) AC.skip (AC.exit 0))
def A18_4 : AC := (AC.reg [] [(I.mk (some 12) none false (X.v (A.mov (O.t 4)))), (I.mk (some 13) none false (X.v (A.bin BinOp.add (O.t 12) (O.k (V.int IntKind.i64 (Int.ofNat 1)))))), (I.mk (some 4) none false (X.v (A.mov (O.t 13))))] [])
def A18_3 : AC := (AC.seq (AC.block 1 (AC.reg [] [(I.mk (some 14) none false (X.v (A.mov (O.t 3)))), (I.mk (some 15) none false (X.v (A.mov (O.t 4)))), (I.mk (some 16) none false (X.v (A.mov (O.t 0)))), (I.mk (some 17) none false (X.v (A.mov (O.t 4)))), (I.mk (some 18) none false (X.v (A.idx (O.t 16) (O.t 17) 1))), (I.mk (some 19) none false (X.v (A.load Sh.s (O.t 18)))), (I.mk (some 20) none false (X.v (A.idx (O.t 14) (O.t 15) 1))), (I.mk none none false (X.store Sh.s (O.t 20) (O.t 19)))] [])) A18_4)
def A18_1 : AC := (AC.seq (AC.seq (AC.reg [] [(I.mk (some 8) none false (X.v (A.mov (O.t 4)))), (I.mk (some 9) none false (X.v (A.mov (O.t 0)))), (I.mk (some 10) none false (X.v (A.len (O.t 9)))), (I.mk (some 11) none false (X.v (A.bin BinOp.lss (O.t 8) (O.t 10))))] []) A18_2) A18_3)
def A18_5 : AC := (AC.seq (AC.reg [] [(I.mk (some 21) none false (X.v (A.mov (O.t 3)))), (I.mk (some 2) none false (X.v (A.mov (O.t 21))))] [.home 3 2]) AC.ret)
def A18_8 : AC := (AC.block 0 (AC.loop A18_1))
def A18_7 : AC := (AC.seq (AC.seq (AC.reg [] [(I.mk (some 4) none false (X.v (A.mov (O.k (V.int IntKind.i64 (Int.ofNat 0))))))] []) A18_8) A18_5)
def A18_6 : AC := (AC.seq (AC.reg [.clr [7]] [(I.mk (some 5) none false (X.v (A.mov (O.t 0)))), (I.mk (some 6) none false (X.v (A.len (O.t 5)))), (I.mk (some 7) none false (X.mk (O.t 6) (V.int IntKind.i64 (Int.ofNat 0)))), (I.mk (some 3) none false (X.v (A.mov (O.t 7))))] [.home 7 3]) A18_7)
def A18 : AC := (AC.seq (AC.reg [] [(I.mk (some 2) none false (X.v (A.mov (O.k (V.sl Tok.nl Sh.s 0 [])))))] []) A18_6)
def an18 : List An := [{ id := 1, pre := [.clr [7]], ep := [.home 7 3], lin := [], sp := [] }, { id := 6, pre := [], ep := [.home 3 2], lin := [], sp := [] }]
theorem c18 : cC Try.prog Try.f18.ntmps an18 (Try.f18.body.getD .skip) = some A18 := by kernel_rfl
structure H18 (D : Den) (σ : Sig) (F : Nat) : Prop where
  mk ::
abbrev R18 (r : (List Int)) : (Nat → V) → Prop := RR Try.prog [.tmp 2] 0 false (Enc.enc (r : (List Int)))
section
variable {D : Den} {σ : Sig} {F : Nat} {r : (List Int)}
def w_toIntS_l1 (F : Nat) (a_1 : (List Int))  : Nat → (List Int) → Int → Option (List Int)
  | 0, _, _ => none
  | k + 1, out_5, i_6 =>
    bif decide (i_6 < (a_1.length : Int)) then
      (idx a_1 i_6).bind fun e_9 =>
      (idx out_5 i_6).bind fun e_10 =>
      (w_toIntS_l1 F a_1 k) (out_5.set i_6.toNat e_9) (w64 (i_6 + 1))
    else
      some out_5
theorem t_f18_l1 (H : H18 D σ F) (a_1 : (List Int))  : ∀ (k : Nat) (out_5 : (List Int)) (i_6 : Int) (s : Nat → V), Facts [(0, (Enc.enc (a_1 : List Int))), (2, (.sl .nl (Enc.shp Int) 0 [])), (3, (encO (.at 3 []) (.of (out_5 : List Int)))), (4, (.int .i64 i_6))] s → w_toIntS_l1 F a_1 k out_5 i_6 = some r → Run D σ (R18 r) (.run A18_1 [.lp A18_1, .bk 0, .sq A18_5]) s := by
  intro k
  induction k with
  | zero => intro out_5 i_6 s _ h; exact nomatch (h : (none : Option _) = some r)
  | succ k ih =>
    intro out_5 i_6 s hs h
    rw [w_toIntS_l1] at h
    obtain ⟨h0, h2, h3, h4⟩ := hs
    refine .seq ?_
    refine .seq ?_
    refine run_reg ?_
    refine e_end ?_
    refine g_v1 (t := 4) (u := (.int .i64 i_6)) (.int .i64 i_6) h4 rfl rfl ?_
    refine g_v1 (t := 0) (u := (Enc.enc (a_1 : List Int))) (Enc.enc (a_1 : List Int)) h0 rfl rfl ?_
    refine g_v (.int .i64 (a_1.length : Int)) (ev_len (xs := a_1) rfl) ?_
    refine g_v2 (t1 := 8) (t2 := 10) (u1 := (.int .i64 i_6)) (u2 := (.int .i64 (a_1.length : Int))) (.bool (decide (i_6 < (a_1.length : Int)))) rfl rfl rfl rfl ?_
    refine g_end ?_
    refine e_end ?_
    refine renew [(0, (Enc.enc (a_1 : List Int))), (2, (.sl .nl (Enc.shp Int) 0 [])), (3, (encO (.at 3 []) (.of (out_5 : List Int)))), (4, (.int .i64 i_6)), (11, (.bool (decide (i_6 < (a_1.length : Int)))))] ⟨h0, h2, h3, h4, rfl⟩ ?_
    rintro s ⟨h0, h2, h3, h4, h11⟩
    refine .nsq ?_
    refine run_cond (t := decide (i_6 < (a_1.length : Int))) h11 h (fun h => ?_) (fun h => ?_)
    · refine .skip ?_
      refine .nsq ?_
      refine .seq ?_
      refine .block ?_
      refine run_reg ?_
      refine e_end ?_
      refine g_v1 (t := 3) (u := (encO (.at 3 []) (.of (out_5 : List Int)))) (encO (.at 3 []) (.of (out_5 : List Int))) h3 rfl rfl ?_
      refine g_v1 (t := 4) (u := (.int .i64 i_6)) (.int .i64 i_6) h4 rfl rfl ?_
      refine g_v1 (t := 0) (u := (Enc.enc (a_1 : List Int))) (Enc.enc (a_1 : List Int)) h0 rfl rfl ?_
      refine g_v1 (t := 4) (u := (.int .i64 i_6)) (.int .i64 i_6) h4 rfl rfl ?_
      obtain ⟨e_9, E_e_9, h⟩ := bind_some h
      refine g_v (.ref .sh 0 [] (.int .i64 e_9)) (ev_idx (t := .sh) (lo := 0) (xs := a_1) rfl rfl E_e_9 rfl rfl) ?_
      refine g_v1 (t := 18) (u := (.ref .sh 0 [] (.int .i64 e_9))) (.int .i64 e_9) rfl rfl rfl ?_
      obtain ⟨e_10, E_e_10, h⟩ := bind_some h
      refine g_v (.ref (.at 3 []) i_6.toNat [] (.int .i64 e_10)) (ev_idxO (o := (.of out_5)) rfl rfl E_e_10 rfl) ?_
      refine g_store (.int .i64 e_9) (rd_of rfl rfl) (rd_of rfl rfl) (by refine ⟨by decide, by decide, rfl, rfl, rfl, ?_⟩; first | rfl | simp [V.toks, V.tokss, Enc.toks_enc]) ?_
      refine g_end ?_
      refine e_end ?_
      refine renew [(0, (Enc.enc (a_1 : List Int))), (2, (.sl .nl (Enc.shp Int) 0 [])), (3, (encO (.at 3 []) (.of (out_5.set i_6.toNat e_9 : List Int)))), (4, (.int .i64 i_6))] ⟨(keep_mut h0 (Enc.mut_enc _ _ _ _ (a_1 : List Int))), (keep_mut h2 rfl), (keep_mut h3 mut_own), (keep_mut h4 rfl)⟩ ?_
      rintro s ⟨h0, h2, h3, h4⟩
      refine .nbk ?_
      refine .nsq ?_
      refine run_reg ?_
      refine e_end ?_
      refine g_v1 (t := 4) (u := (.int .i64 i_6)) (.int .i64 i_6) h4 rfl rfl ?_
      refine g_v1 (t := 12) (u := (.int .i64 i_6)) (.int .i64 (w64 (i_6 + 1))) rfl rfl rfl ?_
      refine g_v1 (t := 13) (u := (.int .i64 (w64 (i_6 + 1)))) (.int .i64 (w64 (i_6 + 1))) rfl rfl rfl ?_
      refine g_end ?_
      refine e_end ?_
      refine renew [(0, (Enc.enc (a_1 : List Int))), (2, (.sl .nl (Enc.shp Int) 0 [])), (3, (encO (.at 3 []) (.of (out_5.set i_6.toNat e_9 : List Int)))), (4, (.int .i64 (w64 (i_6 + 1))))] ⟨h0, h2, h3, rfl⟩ ?_
      rintro s ⟨h0, h2, h3, h4⟩
      refine .nlp ?_
      exact ih (out_5.set i_6.toNat e_9) (w64 (i_6 + 1)) _ ⟨h0, h2, h3, h4⟩ h
    · refine .exit ?_
      refine .esq ?_
      refine .elp ?_
      refine .ebk ?_
      refine .nsq ?_
      refine .seq ?_
      refine run_reg ?_
      refine e_end ?_
      refine g_v1 (t := 3) (u := (encO (.at 3 []) (.of (out_5 : List Int)))) (encO (.at 3 []) (.of (out_5 : List Int))) h3 rfl rfl ?_
      refine g_v1 (t := 21) (u := (encO (.at 3 []) (.of (out_5 : List Int)))) (encO (.at 3 []) (.of (out_5 : List Int))) rfl rfl rfl ?_
      refine g_end ?_
      refine e_home (r := 3) (x := 2) (v := (encO (.at 3 []) (.of (out_5 : List Int)))) (by exact rfl) rfl (fun s_3 hg_3 => ?_)
      refine e_end ?_
      refine renew [(2, (encO (.at 2 []) (.of (out_5 : List Int))))] (hg_3 2 (encO (.at 3 []) (.of (out_5 : List Int))) (encO (.at 2 []) (.of (out_5 : List Int))) rfl (map_encO (r := 3) (p := []) rfl rfl)) ?_
      rintro s h2
      refine .nsq ?_
      refine .ret ?_
      have hr := Option.some.inj h
      subst hr
      exact rrA (res_tmp h2) (fin_retF (fin_own (o := .of out_5)) (mine_own rfl))
def w_toIntS (F : Nat) (a_1 : (List Int)) : Option (List Int) :=
  (mkN (a_1.length : Int) (0 : Int)).bind fun mk_2 =>
  w_toIntS_l1 F a_1 F mk_2 0
theorem t18 (H : H18 D σ F) (a_1 : (List Int)) (s : Nat → V) (hs : Facts [(0, (Enc.enc (a_1 : List Int)))] s) (h : w_toIntS F a_1 = some r) : Run D σ (R18 r) (.run A18 []) s := by
  unfold w_toIntS at h
  have h0 := hs
  refine .seq ?_
  refine run_reg ?_
  refine e_end ?_
  refine g_v0 (.sl .nl (Enc.shp Int) 0 []) rfl rfl ?_
  refine g_end ?_
  refine e_end ?_
  refine renew [(0, (Enc.enc (a_1 : List Int))), (2, (.sl .nl (Enc.shp Int) 0 []))] ⟨h0, rfl⟩ ?_
  rintro s ⟨h0, h2⟩
  refine .nsq ?_
  refine .seq ?_
  refine run_reg ?_
  refine e_clr ?_
  refine e_end ?_
  refine g_v1 (t := 0) (u := (Enc.enc (a_1 : List Int))) (Enc.enc (a_1 : List Int)) (keep_clear (s := s) (pk := [7]) h0 rfl (Enc.map_enc _ (a_1 : List Int))) rfl rfl ?_
  refine g_v (.int .i64 (a_1.length : Int)) (ev_len (xs := a_1) rfl) ?_
  obtain ⟨mk_2, E_mk_2, h⟩ := bind_some h
  refine g_mk (0 : Int) rfl rfl (gone_clear (s := s) (pk := [7]) (t := 7) rfl) E_mk_2 ?_
  refine g_v1 (t := 7) (u := (encO (.at 7 []) (.of (mk_2 : List Int)))) (encO (.at 7 []) (.of (mk_2 : List Int))) rfl rfl rfl ?_
  refine g_end ?_
  refine e_home (r := 7) (x := 3) (v := (encO (.at 7 []) (.of (mk_2 : List Int)))) (by exact rfl) rfl (fun s_2 hg_2 => ?_)
  refine e_end ?_
  refine renew [(0, (Enc.enc (a_1 : List Int))), (2, (.sl .nl (Enc.shp Int) 0 [])), (3, (encO (.at 3 []) (.of (mk_2 : List Int))))] ⟨(hg_2 0 (Enc.enc (a_1 : List Int)) (Enc.enc (a_1 : List Int)) (keep_clear (s := s) (pk := [7]) h0 rfl (Enc.map_enc _ (a_1 : List Int))) (Enc.map_enc _ (a_1 : List Int))), (hg_2 2 (.sl .nl (Enc.shp Int) 0 []) (.sl .nl (Enc.shp Int) 0 []) (keep_clear (s := s) (pk := [7]) h2 rfl rfl) rfl), (hg_2 3 (encO (.at 7 []) (.of (mk_2 : List Int))) (encO (.at 3 []) (.of (mk_2 : List Int))) rfl (map_encO (r := 7) (p := []) rfl rfl))⟩ ?_
  rintro s ⟨h0, h2, h3⟩
  refine .nsq ?_
  refine .seq ?_
  refine .seq ?_
  refine run_reg ?_
  refine e_end ?_
  refine g_v0 (.int .i64 0) rfl rfl ?_
  refine g_end ?_
  refine e_end ?_
  refine renew [(0, (Enc.enc (a_1 : List Int))), (2, (.sl .nl (Enc.shp Int) 0 [])), (3, (encO (.at 3 []) (.of (mk_2 : List Int)))), (4, (.int .i64 0))] ⟨h0, h2, h3, rfl⟩ ?_
  rintro s ⟨h0, h2, h3, h4⟩
  refine .nsq ?_
  refine .block ?_
  refine .loop ?_
  exact t_f18_l1 H a_1 F mk_2 0 _ ⟨h0, h2, h3, h4⟩ h
end
def e18 (F : Nat) : Ent := ⟨18, da (fun (x : ((List Int) × Unit)) => w_toIntS F x.1) (fun (r : (List Int)) => (Enc.enc (r : (List Int)))), 0, false, selF []⟩
theorem p18 {F : Nat} {x0 : (List Int)} {r : (List Int)} (h : w_toIntS F x0 = some r) : (e18 F).den [Enc.enc x0] = some (Enc.enc (r : (List Int))) := da_put (f := fun (x : ((List Int) × Unit)) => w_toIntS F x.1) (t := fun (r : (List Int)) => (Enc.enc (r : (List Int)))) (x0, ()) h
theorem o18 {D : Den} {σ : Sig} {F : Nat} (hF : Fits2 Try.prog D σ) (H : H18 D σ F) : (e18 F).Ok Try.prog := by
  refine ok_of (f := 18) (show unk 18 = 18 from rfl) (fun args r h => ?_) ⟨Try.f18, Try.func18, rfl, rfl⟩
  obtain ⟨⟨x0, _⟩, y, rfl, hy, rfl⟩ := da_open h
  exact contract_run hF (by kernel_rfl) Try.func18 rfl c18 (show 1 ≤ Try.f18.ntmps by decide) (t18 H x0 _ rfl hy)
/- loop.example/g01109/spec.l1In -/
def A62_1 : AC := (AC.seq (AC.reg [] [(I.mk (some 7) none false (X.v (A.mov (O.t 0)))), (I.mk (some 8) none false (X.v (A.mov (O.t 1)))), (I.mk (some 9) none false (X.v (A.bin BinOp.geq (O.t 7) (O.t 8)))), (I.mk (some 10) none false (X.v (A.mov (O.t 9)))), (I.mk (some 11) (some (10, true)) false (X.v (A.mov (O.t 0)))), (I.mk (some 12) (some (10, true)) false (X.v (A.mov (O.t 2)))), (I.mk (some 13) (some (10, true)) false (X.v (A.bin BinOp.leq (O.t 11) (O.t 12)))), (I.mk (some 14) none false (X.v (A.pick (O.t 10) (O.t 13) (O.k (V.bool false))))), (I.mk (some 6) none false (X.v (A.mov (O.t 14))))] []) AC.ret)
def A62 : AC := (AC.seq (AC.reg [] [(I.mk (some 6) none false (X.v (A.mov (O.k (V.bool false)))))] []) A62_1)
def an62 : List An := []
theorem c62 : cC Try.prog Try.f62.ntmps an62 (Try.f62.body.getD .skip) = some A62 := by kernel_rfl
structure H62 (D : Den) (σ : Sig) (F : Nat) : Prop where
  mk ::
abbrev R62 (r : Bool) : (Nat → V) → Prop := RR Try.prog [.tmp 6] 0 false (Enc.enc (r : Bool))
section
variable {D : Den} {σ : Sig} {F : Nat} {r : Bool}
def s_l1In (F : Nat) (x_1 : Int) (a_2 : Int) (b_3 : Int) : Option Bool :=
  bif decide (x_1 ≥ a_2) then
    some (decide (x_1 ≤ b_3))
  else
    some false
theorem t62 (H : H62 D σ F) (x_1 : Int) (a_2 : Int) (b_3 : Int) (s : Nat → V) (hs : Facts [(0, (.int .i64 x_1)), (1, (.int .i64 a_2)), (2, (.int .i64 b_3))] s) (h : s_l1In F x_1 a_2 b_3 = some r) : Run D σ (R62 r) (.run A62 []) s := by
  unfold s_l1In at h
  obtain ⟨h0, h1, h2⟩ := hs
  refine .seq ?_
  refine run_reg ?_
  refine e_end ?_
  refine g_v0 (.bool false) rfl rfl ?_
  refine g_end ?_
  refine e_end ?_
  refine renew [(0, (.int .i64 x_1)), (1, (.int .i64 a_2)), (2, (.int .i64 b_3)), (6, (.bool false))] ⟨h0, h1, h2, rfl⟩ ?_
  rintro s ⟨h0, h1, h2, h6⟩
  refine .nsq ?_
  refine .seq ?_
  refine run_reg ?_
  refine e_end ?_
  refine g_v1 (t := 0) (u := (.int .i64 x_1)) (.int .i64 x_1) h0 rfl rfl ?_
  refine g_v1 (t := 1) (u := (.int .i64 a_2)) (.int .i64 a_2) h1 rfl rfl ?_
  refine g_v2 (t1 := 7) (t2 := 8) (u1 := (.int .i64 x_1)) (u2 := (.int .i64 a_2)) (.bool (decide (x_1 ≥ a_2))) rfl rfl rfl rfl ?_
  refine g_v1 (t := 9) (u := (.bool (decide (x_1 ≥ a_2)))) (.bool (decide (x_1 ≥ a_2))) rfl rfl rfl ?_
  refine split_on (c := decide (x_1 ≥ a_2)) h (fun hg4 h => ?_) (fun hg4 h => ?_)
  · refine g_yes (Eq.trans (b := .bool (decide (x_1 ≥ a_2))) rfl (congrArg V.bool hg4)) (g_v1 (t := 0) (u := (.int .i64 x_1)) (.int .i64 x_1) h0 rfl rfl ?_)
    refine g_yes (Eq.trans (b := .bool (decide (x_1 ≥ a_2))) rfl (congrArg V.bool hg4)) (g_v1 (t := 2) (u := (.int .i64 b_3)) (.int .i64 b_3) h2 rfl rfl ?_)
    refine g_yes (Eq.trans (b := .bool (decide (x_1 ≥ a_2))) rfl (congrArg V.bool hg4)) (g_v2 (t1 := 11) (t2 := 12) (u1 := (.int .i64 x_1)) (u2 := (.int .i64 b_3)) (.bool (decide (x_1 ≤ b_3))) rfl rfl rfl rfl ?_)
    refine g_v2 (t1 := 10) (t2 := 13) (u1 := (.bool true)) (u2 := (.bool (decide (x_1 ≤ b_3)))) (.bool (decide (x_1 ≤ b_3))) (Eq.trans (b := .bool (decide (x_1 ≥ a_2))) rfl (congrArg V.bool hg4)) rfl rfl rfl ?_
    refine g_v1 (t := 14) (u := (.bool (decide (x_1 ≤ b_3)))) (.bool (decide (x_1 ≤ b_3))) rfl rfl rfl ?_
    refine g_end ?_
    refine e_end ?_
    refine renew [(6, (.bool (decide (x_1 ≤ b_3))))] rfl ?_
    rintro s h6
    refine .nsq ?_
    refine .ret ?_
    have hr := Option.some.inj h
    subst hr
    exact rrA (res_tmp h6) rfl
  · refine g_no (Eq.trans (b := .bool (decide (x_1 ≥ a_2))) rfl (congrArg V.bool hg4)) ?_
    refine g_no (Eq.trans (b := .bool (decide (x_1 ≥ a_2))) rfl (congrArg V.bool hg4)) ?_
    refine g_no (Eq.trans (b := .bool (decide (x_1 ≥ a_2))) rfl (congrArg V.bool hg4)) ?_
    refine g_v2 (t1 := 10) (t2 := 13) (u1 := (.bool false)) (u2 := (.tup [])) (.bool false) (Eq.trans (b := .bool (decide (x_1 ≥ a_2))) rfl (congrArg V.bool hg4)) rfl rfl rfl ?_
    refine g_v1 (t := 14) (u := (.bool false)) (.bool false) rfl rfl rfl ?_
    refine g_end ?_
    refine e_end ?_
    refine renew [(6, (.bool false))] rfl ?_
    rintro s h6
    refine .nsq ?_
    refine .ret ?_
    have hr := Option.some.inj h
    subst hr
    exact rrA (res_tmp h6) rfl
end
def e62 (F : Nat) : Ent := ⟨62, da (fun (x : (Int × Int × Int × Unit)) => s_l1In F x.1 x.2.1 x.2.2.1) (fun (r : Bool) => (Enc.enc (r : Bool))), 0, false, selF []⟩
theorem p62 {F : Nat} {x0 : Int} {x1 : Int} {x2 : Int} {r : Bool} (h : s_l1In F x0 x1 x2 = some r) : (e62 F).den [Enc.enc x0, Enc.enc x1, Enc.enc x2] = some (Enc.enc (r : Bool)) := da_put (f := fun (x : (Int × Int × Int × Unit)) => s_l1In F x.1 x.2.1 x.2.2.1) (t := fun (r : Bool) => (Enc.enc (r : Bool))) (x0, x1, x2, ()) h
theorem o62 {D : Den} {σ : Sig} {F : Nat} (hF : Fits2 Try.prog D σ) (H : H62 D σ F) : (e62 F).Ok Try.prog := by
  refine ok_of (f := 62) (show unk 62 = 62 from rfl) (fun args r h => ?_) ⟨Try.f62, Try.func62, rfl, rfl⟩
  obtain ⟨⟨x0, x1, x2, _⟩, y, rfl, hy, rfl⟩ := da_open h
  exact contract_run hF (by kernel_rfl) Try.func62 rfl c62 (show 3 ≤ Try.f62.ntmps by decide) (t62 H x0 x1 x2 _ ⟨rfl, rfl, rfl⟩ hy)
/- loop.example/g01109/spec.l2Before -/
def A97_1 : AC := (AC.seq (AC.reg [] [(I.mk (some 5) none false (X.v (A.idxA (O.t 2) (O.k (V.int IntKind.i64 (Int.ofNat 0))) 2 1))), (I.mk (some 6) none false (X.v (A.load Sh.s (O.t 5)))), (I.mk (some 7) none false (X.v (A.idxA (O.t 3) (O.k (V.int IntKind.i64 (Int.ofNat 0))) 2 1))), (I.mk (some 8) none false (X.v (A.load Sh.s (O.t 7)))), (I.mk (some 9) none false (X.v (A.bin BinOp.lss (O.t 6) (O.t 8)))), (I.mk (some 10) none false (X.v (A.mov (O.t 9)))), (I.mk (some 11) (some (10, false)) false (X.v (A.idxA (O.t 2) (O.k (V.int IntKind.i64 (Int.ofNat 0))) 2 1))), (I.mk (some 12) (some (10, false)) false (X.v (A.load Sh.s (O.t 11)))), (I.mk (some 13) (some (10, false)) false (X.v (A.idxA (O.t 3) (O.k (V.int IntKind.i64 (Int.ofNat 0))) 2 1))), (I.mk (some 14) (some (10, false)) false (X.v (A.load Sh.s (O.t 13)))), (I.mk (some 15) (some (10, false)) false (X.v (A.bin BinOp.eql (O.t 12) (O.t 14)))), (I.mk (some 16) (some (10, false)) false (X.v (A.mov (O.t 15)))), (I.mk (some 17) (some (16, true)) false (X.v (A.idxA (O.t 2) (O.k (V.int IntKind.i64 (Int.ofNat 1))) 2 1))), (I.mk (some 18) (some (16, true)) false (X.v (A.load Sh.s (O.t 17)))), (I.mk (some 19) (some (16, true)) false (X.v (A.idxA (O.t 3) (O.k (V.int IntKind.i64 (Int.ofNat 1))) 2 1))), (I.mk (some 20) (some (16, true)) false (X.v (A.load Sh.s (O.t 19)))), (I.mk (some 21) (some (16, true)) false (X.v (A.bin BinOp.lss (O.t 18) (O.t 20)))), (I.mk (some 22) (some (10, false)) false (X.v (A.pick (O.t 16) (O.t 21) (O.k (V.bool false))))), (I.mk (some 23) none false (X.v (A.pick (O.t 10) (O.k (V.bool true)) (O.t 22)))), (I.mk (some 4) none false (X.v (A.mov (O.t 23))))] []) AC.ret)
def A97 : AC := (AC.seq (AC.reg [.clr [2, 3]] [(I.mk (some 2) none false (X.box (O.t 0))), (I.mk (some 3) none false (X.box (O.t 1))), (I.mk (some 4) none false (X.v (A.mov (O.k (V.bool false)))))] []) A97_1)
def an97 : List An := [{ id := 0, pre := [.clr [2, 3]], ep := [], lin := [], sp := [] }]
theorem c97 : cC Try.prog Try.f97.ntmps an97 (Try.f97.body.getD .skip) = some A97 := by kernel_rfl
structure H97 (D : Den) (σ : Sig) (F : Nat) : Prop where
  mk ::
abbrev R97 (r : Bool) : (Nat → V) → Prop := RR Try.prog [.tmp 4] 0 false (Enc.enc (r : Bool))
section
variable {D : Den} {σ : Sig} {F : Nat} {r : Bool}
def s_l2Before (F : Nat) (a_1 : (Int × Int)) (b_2 : (Int × Int)) : Option Bool :=
  bif decide (a_1.1 < b_2.1) then
    some true
  else
    bif (a_1.1 == b_2.1) then
      some (decide (a_1.2 < b_2.2))
    else
      some false
theorem t97 (H : H97 D σ F) (a_1 : (Int × Int)) (b_2 : (Int × Int)) (s : Nat → V) (hs : Facts [(0, (.agg [(.int .i64 a_1.1), (.int .i64 a_1.2)])), (1, (.agg [(.int .i64 b_2.1), (.int .i64 b_2.2)]))] s) (h : s_l2Before F a_1 b_2 = some r) : Run D σ (R97 r) (.run A97 []) s := by
  unfold s_l2Before at h
  obtain ⟨h0, h1⟩ := hs
  refine .seq ?_
  refine run_reg ?_
  refine e_clr ?_
  refine e_end ?_
  refine g_box (.agg [(.int .i64 a_1.1), (.int .i64 a_1.2)]) (rd_of (keep_clear (s := s) (pk := [2, 3]) h0 rfl (map_agg (maps_cons rfl (maps_cons rfl maps_nil)))) rfl) (gone_clear (s := s) (pk := [2, 3]) (t := 2) rfl) rfl ?_
  refine g_box (.agg [(.int .i64 b_2.1), (.int .i64 b_2.2)]) (rd_of (keep_clear (s := s) (pk := [2, 3]) h1 rfl (map_agg (maps_cons rfl (maps_cons rfl maps_nil)))) rfl) (gone_clear (s := s) (pk := [2, 3]) (t := 3) rfl) rfl ?_
  refine g_v0 (.bool false) rfl rfl ?_
  refine g_end ?_
  refine e_end ?_
  refine renew [(2, (.ref (.bx 2) 0 [] (.agg [(.int .i64 a_1.1), (.int .i64 a_1.2)]))), (3, (.ref (.bx 3) 0 [] (.agg [(.int .i64 b_2.1), (.int .i64 b_2.2)]))), (4, (.bool false))] ⟨rfl, rfl, rfl⟩ ?_
  rintro s ⟨h2, h3, h4⟩
  refine .nsq ?_
  refine .seq ?_
  refine run_reg ?_
  refine e_end ?_
  refine g_v1 (t := 2) (u := (.ref (.bx 2) 0 [] (.agg [(.int .i64 a_1.1), (.int .i64 a_1.2)]))) (.ref (.bx 2) 0 [0] (.int .i64 a_1.1)) h2 rfl rfl ?_
  refine g_v1 (t := 5) (u := (.ref (.bx 2) 0 [0] (.int .i64 a_1.1))) (.int .i64 a_1.1) rfl rfl rfl ?_
  refine g_v1 (t := 3) (u := (.ref (.bx 3) 0 [] (.agg [(.int .i64 b_2.1), (.int .i64 b_2.2)]))) (.ref (.bx 3) 0 [0] (.int .i64 b_2.1)) h3 rfl rfl ?_
  refine g_v1 (t := 7) (u := (.ref (.bx 3) 0 [0] (.int .i64 b_2.1))) (.int .i64 b_2.1) rfl rfl rfl ?_
  refine g_v2 (t1 := 6) (t2 := 8) (u1 := (.int .i64 a_1.1)) (u2 := (.int .i64 b_2.1)) (.bool (decide (a_1.1 < b_2.1))) rfl rfl rfl rfl ?_
  refine g_v1 (t := 9) (u := (.bool (decide (a_1.1 < b_2.1)))) (.bool (decide (a_1.1 < b_2.1))) rfl rfl rfl ?_
  refine split_on (c := decide (a_1.1 < b_2.1)) h (fun hg6 h => ?_) (fun hg6 h => ?_)
  · refine g_no (Eq.trans (b := .bool (decide (a_1.1 < b_2.1))) rfl (congrArg V.bool hg6)) ?_
    refine g_no (Eq.trans (b := .bool (decide (a_1.1 < b_2.1))) rfl (congrArg V.bool hg6)) ?_
    refine g_no (Eq.trans (b := .bool (decide (a_1.1 < b_2.1))) rfl (congrArg V.bool hg6)) ?_
    refine g_no (Eq.trans (b := .bool (decide (a_1.1 < b_2.1))) rfl (congrArg V.bool hg6)) ?_
    refine g_no (Eq.trans (b := .bool (decide (a_1.1 < b_2.1))) rfl (congrArg V.bool hg6)) ?_
    refine g_no (Eq.trans (b := .bool (decide (a_1.1 < b_2.1))) rfl (congrArg V.bool hg6)) ?_
    refine g_skip rfl ?_
    refine g_skip rfl ?_
    refine g_skip rfl ?_
    refine g_skip rfl ?_
    refine g_skip rfl ?_
    refine g_no (Eq.trans (b := .bool (decide (a_1.1 < b_2.1))) rfl (congrArg V.bool hg6)) ?_
    refine g_v2 (t1 := 10) (t2 := 22) (u1 := (.bool true)) (u2 := (.tup [])) (.bool true) (Eq.trans (b := .bool (decide (a_1.1 < b_2.1))) rfl (congrArg V.bool hg6)) rfl rfl rfl ?_
    refine g_v1 (t := 23) (u := (.bool true)) (.bool true) rfl rfl rfl ?_
    refine g_end ?_
    refine e_end ?_
    refine renew [(4, (.bool true))] rfl ?_
    rintro s h4
    refine .nsq ?_
    refine .ret ?_
    have hr := Option.some.inj h
    subst hr
    exact rrA (res_tmp h4) rfl
  · refine g_yes (Eq.trans (b := .bool (decide (a_1.1 < b_2.1))) rfl (congrArg V.bool hg6)) (g_v1 (t := 2) (u := (.ref (.bx 2) 0 [] (.agg [(.int .i64 a_1.1), (.int .i64 a_1.2)]))) (.ref (.bx 2) 0 [0] (.int .i64 a_1.1)) h2 rfl rfl ?_)
    refine g_yes (Eq.trans (b := .bool (decide (a_1.1 < b_2.1))) rfl (congrArg V.bool hg6)) (g_v1 (t := 11) (u := (.ref (.bx 2) 0 [0] (.int .i64 a_1.1))) (.int .i64 a_1.1) rfl rfl rfl ?_)
    refine g_yes (Eq.trans (b := .bool (decide (a_1.1 < b_2.1))) rfl (congrArg V.bool hg6)) (g_v1 (t := 3) (u := (.ref (.bx 3) 0 [] (.agg [(.int .i64 b_2.1), (.int .i64 b_2.2)]))) (.ref (.bx 3) 0 [0] (.int .i64 b_2.1)) h3 rfl rfl ?_)
    refine g_yes (Eq.trans (b := .bool (decide (a_1.1 < b_2.1))) rfl (congrArg V.bool hg6)) (g_v1 (t := 13) (u := (.ref (.bx 3) 0 [0] (.int .i64 b_2.1))) (.int .i64 b_2.1) rfl rfl rfl ?_)
    refine g_yes (Eq.trans (b := .bool (decide (a_1.1 < b_2.1))) rfl (congrArg V.bool hg6)) (g_v2 (t1 := 12) (t2 := 14) (u1 := (.int .i64 a_1.1)) (u2 := (.int .i64 b_2.1)) (.bool (a_1.1 == b_2.1)) rfl rfl rfl rfl ?_)
    refine g_yes (Eq.trans (b := .bool (decide (a_1.1 < b_2.1))) rfl (congrArg V.bool hg6)) (g_v1 (t := 15) (u := (.bool (a_1.1 == b_2.1))) (.bool (a_1.1 == b_2.1)) rfl rfl rfl ?_)
    refine split_on (c := (a_1.1 == b_2.1)) h (fun hg12 h => ?_) (fun hg12 h => ?_)
    · refine g_yes (Eq.trans (b := .bool (a_1.1 == b_2.1)) rfl (congrArg V.bool hg12)) (g_v1 (t := 2) (u := (.ref (.bx 2) 0 [] (.agg [(.int .i64 a_1.1), (.int .i64 a_1.2)]))) (.ref (.bx 2) 0 [1] (.int .i64 a_1.2)) h2 rfl rfl ?_)
      refine g_yes (Eq.trans (b := .bool (a_1.1 == b_2.1)) rfl (congrArg V.bool hg12)) (g_v1 (t := 17) (u := (.ref (.bx 2) 0 [1] (.int .i64 a_1.2))) (.int .i64 a_1.2) rfl rfl rfl ?_)
      refine g_yes (Eq.trans (b := .bool (a_1.1 == b_2.1)) rfl (congrArg V.bool hg12)) (g_v1 (t := 3) (u := (.ref (.bx 3) 0 [] (.agg [(.int .i64 b_2.1), (.int .i64 b_2.2)]))) (.ref (.bx 3) 0 [1] (.int .i64 b_2.2)) h3 rfl rfl ?_)
      refine g_yes (Eq.trans (b := .bool (a_1.1 == b_2.1)) rfl (congrArg V.bool hg12)) (g_v1 (t := 19) (u := (.ref (.bx 3) 0 [1] (.int .i64 b_2.2))) (.int .i64 b_2.2) rfl rfl rfl ?_)
      refine g_yes (Eq.trans (b := .bool (a_1.1 == b_2.1)) rfl (congrArg V.bool hg12)) (g_v2 (t1 := 18) (t2 := 20) (u1 := (.int .i64 a_1.2)) (u2 := (.int .i64 b_2.2)) (.bool (decide (a_1.2 < b_2.2))) rfl rfl rfl rfl ?_)
      refine g_yes (Eq.trans (b := .bool (decide (a_1.1 < b_2.1))) rfl (congrArg V.bool hg6)) (g_v2 (t1 := 16) (t2 := 21) (u1 := (.bool true)) (u2 := (.bool (decide (a_1.2 < b_2.2)))) (.bool (decide (a_1.2 < b_2.2))) (Eq.trans (b := .bool (a_1.1 == b_2.1)) rfl (congrArg V.bool hg12)) rfl rfl rfl ?_)
      refine g_v2 (t1 := 10) (t2 := 22) (u1 := (.bool false)) (u2 := (.bool (decide (a_1.2 < b_2.2)))) (.bool (decide (a_1.2 < b_2.2))) (Eq.trans (b := .bool (decide (a_1.1 < b_2.1))) rfl (congrArg V.bool hg6)) rfl rfl rfl ?_
      refine g_v1 (t := 23) (u := (.bool (decide (a_1.2 < b_2.2)))) (.bool (decide (a_1.2 < b_2.2))) rfl rfl rfl ?_
      refine g_end ?_
      refine e_end ?_
      refine renew [(4, (.bool (decide (a_1.2 < b_2.2))))] rfl ?_
      rintro s h4
      refine .nsq ?_
      refine .ret ?_
      have hr := Option.some.inj h
      subst hr
      exact rrA (res_tmp h4) rfl
    · refine g_no (Eq.trans (b := .bool (a_1.1 == b_2.1)) rfl (congrArg V.bool hg12)) ?_
      refine g_no (Eq.trans (b := .bool (a_1.1 == b_2.1)) rfl (congrArg V.bool hg12)) ?_
      refine g_no (Eq.trans (b := .bool (a_1.1 == b_2.1)) rfl (congrArg V.bool hg12)) ?_
      refine g_no (Eq.trans (b := .bool (a_1.1 == b_2.1)) rfl (congrArg V.bool hg12)) ?_
      refine g_no (Eq.trans (b := .bool (a_1.1 == b_2.1)) rfl (congrArg V.bool hg12)) ?_
      refine g_yes (Eq.trans (b := .bool (decide (a_1.1 < b_2.1))) rfl (congrArg V.bool hg6)) (g_v2 (t1 := 16) (t2 := 21) (u1 := (.bool false)) (u2 := (.tup [])) (.bool false) (Eq.trans (b := .bool (a_1.1 == b_2.1)) rfl (congrArg V.bool hg12)) rfl rfl rfl ?_)
      refine g_v2 (t1 := 10) (t2 := 22) (u1 := (.bool false)) (u2 := (.bool false)) (.bool false) (Eq.trans (b := .bool (decide (a_1.1 < b_2.1))) rfl (congrArg V.bool hg6)) rfl rfl rfl ?_
      refine g_v1 (t := 23) (u := (.bool false)) (.bool false) rfl rfl rfl ?_
      refine g_end ?_
      refine e_end ?_
      refine renew [(4, (.bool false))] rfl ?_
      rintro s h4
      refine .nsq ?_
      refine .ret ?_
      have hr := Option.some.inj h
      subst hr
      exact rrA (res_tmp h4) rfl
end
def e97 (F : Nat) : Ent := ⟨97, da (fun (x : ((Int × Int) × (Int × Int) × Unit)) => s_l2Before F x.1 x.2.1) (fun (r : Bool) => (Enc.enc (r : Bool))), 0, false, selF []⟩
theorem p97 {F : Nat} {x0 : (Int × Int)} {x1 : (Int × Int)} {r : Bool} (h : s_l2Before F x0 x1 = some r) : (e97 F).den [Enc.enc x0, Enc.enc x1] = some (Enc.enc (r : Bool)) := da_put (f := fun (x : ((Int × Int) × (Int × Int) × Unit)) => s_l2Before F x.1 x.2.1) (t := fun (r : Bool) => (Enc.enc (r : Bool))) (x0, x1, ()) h
theorem o97 {D : Den} {σ : Sig} {F : Nat} (hF : Fits2 Try.prog D σ) (H : H97 D σ F) : (e97 F).Ok Try.prog := by
  refine ok_of (f := 97) (show unk 97 = 97 from rfl) (fun args r h => ?_) ⟨Try.f97, Try.func97, rfl, rfl⟩
  obtain ⟨⟨x0, x1, _⟩, y, rfl, hy, rfl⟩ := da_open h
  exact contract_run hF (by kernel_rfl) Try.func97 rfl c97 (show 2 ≤ Try.f97.ntmps by decide) (t97 H x0 x1 _ ⟨rfl, rfl⟩ hy)
/- loop.example/g01109/spec.l2Good -/
def A45_2 : AC := (AC.cond (O.t 9) AC.skip (AC.exit 0))
def A45_5 : AC := (AC.cond (O.t 54) (AC.seq (AC.reg [] [(I.mk (some 2) none false (X.v (A.mov (O.k (V.bool false)))))] []) AC.ret) AC.skip)
def A45_4 : AC := (AC.seq (AC.reg [] [(I.mk (some 17) none false (X.v (A.idxA (O.t 4) (O.k (V.int IntKind.i64 (Int.ofNat 0))) 2 1))), (I.mk (some 18) none false (X.v (A.load Sh.s (O.t 17)))), (I.mk (some 19) none false (X.v (A.fld (O.t 1) 0 0))), (I.mk (some 20) none false (X.v (A.load Sh.s (O.t 19)))), (I.mk (some 21) none false (X.v (A.bin BinOp.sub (O.t 20) (O.k (V.int IntKind.i64 (Int.ofNat 1)))))), (I.mk (some 22) none false (X.call (O.k (V.fn 62 [] [])) [(O.t 18), (O.k (V.int IntKind.i64 (Int.ofNat 0))), (O.t 21)])), (I.mk (some 23) none false (X.v (A.un UnOp.not (O.t 22)))), (I.mk (some 24) none false (X.v (A.mov (O.t 23)))), (I.mk (some 25) (some (24, false)) false (X.v (A.idxA (O.t 4) (O.k (V.int IntKind.i64 (Int.ofNat 1))) 2 1))), (I.mk (some 26) (some (24, false)) false (X.v (A.load Sh.s (O.t 25)))), (I.mk (some 27) (some (24, false)) false (X.v (A.fld (O.t 1) 0 0))), (I.mk (some 28) (some (24, false)) false (X.v (A.load Sh.s (O.t 27)))), (I.mk (some 29) (some (24, false)) false (X.v (A.bin BinOp.sub (O.t 28) (O.k (V.int IntKind.i64 (Int.ofNat 1)))))), (I.mk (some 30) (some (24, false)) false (X.call (O.k (V.fn 62 [] [])) [(O.t 26), (O.k (V.int IntKind.i64 (Int.ofNat 0))), (O.t 29)])), (I.mk (some 31) (some (24, false)) false (X.v (A.un UnOp.not (O.t 30)))), (I.mk (some 32) none false (X.v (A.pick (O.t 24) (O.k (V.bool true)) (O.t 31)))), (I.mk (some 33) none false (X.v (A.mov (O.t 32)))), (I.mk (some 34) (some (33, false)) false (X.v (A.idxA (O.t 4) (O.k (V.int IntKind.i64 (Int.ofNat 0))) 2 1))), (I.mk (some 35) (some (33, false)) false (X.v (A.load Sh.s (O.t 34)))), (I.mk (some 36) (some (33, false)) false (X.v (A.idxA (O.t 4) (O.k (V.int IntKind.i64 (Int.ofNat 1))) 2 1))), (I.mk (some 37) (some (33, false)) false (X.v (A.load Sh.s (O.t 36)))), (I.mk (some 38) (some (33, false)) false (X.v (A.bin BinOp.geq (O.t 35) (O.t 37)))), (I.mk (some 39) none false (X.v (A.pick (O.t 33) (O.k (V.bool true)) (O.t 38)))), (I.mk (some 40) none false (X.v (A.mov (O.t 39)))), (I.mk (some 41) (some (40, false)) false (X.v (A.mov (O.t 3)))), (I.mk (some 42) (some (40, false)) false (X.v (A.bin BinOp.gtr (O.t 41) (O.k (V.int IntKind.i64 (Int.ofNat 0)))))), (I.mk (some 43) (some (40, false)) false (X.v (A.mov (O.t 42)))), (I.mk (some 44) (some (43, true)) false (X.v (A.fld (O.t 1) 1 1))), (I.mk (some 45) (some (43, true)) false (X.v (A.load Sh.p (O.t 44)))), (I.mk (some 46) (some (43, true)) false (X.v (A.mov (O.t 3)))), (I.mk (some 47) (some (43, true)) false (X.v (A.bin BinOp.sub (O.t 46) (O.k (V.int IntKind.i64 (Int.ofNat 1)))))), (I.mk (some 48) (some (43, true)) false (X.v (A.idx (O.t 45) (O.t 47) 2))), (I.mk (some 49) (some (43, true)) false (X.v (A.load (Sh.ag [Sh.s, Sh.s]) (O.t 48)))), (I.mk (some 50) (some (43, true)) false (X.v (A.load (Sh.ag [Sh.s, Sh.s]) (O.t 4)))), (I.mk (some 51) (some (43, true)) false (X.call (O.k (V.fn 97 [] [])) [(O.t 49), (O.t 50)])), (I.mk (some 52) (some (43, true)) false (X.v (A.un UnOp.not (O.t 51)))), (I.mk (some 53) (some (40, false)) false (X.v (A.pick (O.t 43) (O.t 52) (O.k (V.bool false))))), (I.mk (some 54) none false (X.v (A.pick (O.t 40) (O.k (V.bool true)) (O.t 53))))] []) A45_5)
def A45_6 : AC := (AC.reg [] [(I.mk (some 10) none false (X.v (A.mov (O.t 3)))), (I.mk (some 11) none false (X.v (A.bin BinOp.add (O.t 10) (O.k (V.int IntKind.i64 (Int.ofNat 1)))))), (I.mk (some 3) none false (X.v (A.mov (O.t 11))))] [])
def A45_3 : AC := (AC.seq (AC.block 1 (AC.seq (AC.reg [.clr [4]] [(I.mk (some 12) none false (X.v (A.fld (O.t 1) 1 1))), (I.mk (some 13) none false (X.v (A.load Sh.p (O.t 12)))), (I.mk (some 14) none false (X.v (A.mov (O.t 3)))), (I.mk (some 15) none false (X.v (A.idx (O.t 13) (O.t 14) 2))), (I.mk (some 16) none false (X.v (A.load (Sh.ag [Sh.s, Sh.s]) (O.t 15)))), (I.mk (some 4) none false (X.alloc (V.agg [(V.int IntKind.i64 (Int.ofNat 0)), (V.int IntKind.i64 (Int.ofNat 0))]))), (I.mk none none false (X.store (Sh.ag [Sh.s, Sh.s]) (O.t 4) (O.t 16)))] []) A45_4)) A45_6)
def A45_1 : AC := (AC.seq (AC.seq (AC.reg [] [(I.mk (some 5) none false (X.v (A.mov (O.t 3)))), (I.mk (some 6) none false (X.v (A.fld (O.t 1) 1 1))), (I.mk (some 7) none false (X.v (A.load Sh.p (O.t 6)))), (I.mk (some 8) none false (X.v (A.len (O.t 7)))), (I.mk (some 9) none false (X.v (A.bin BinOp.lss (O.t 5) (O.t 8))))] []) A45_2) A45_3)
def A45_7 : AC := (AC.seq (AC.reg [] [(I.mk (some 55) none false (X.v (A.fld (O.t 1) 0 0))), (I.mk (some 56) none false (X.v (A.load Sh.s (O.t 55)))), (I.mk (some 57) none false (X.call (O.k (V.fn 62 [] [])) [(O.t 56), (O.k (V.int IntKind.i64 (Int.ofNat 0))), (O.k (V.int IntKind.i64 (Int.ofNat 8)))])), (I.mk (some 2) none false (X.v (A.mov (O.t 57))))] []) AC.ret)
def A45_9 : AC := (AC.block 0 (AC.loop A45_1))
def A45_8 : AC := (AC.seq (AC.seq (AC.reg [] [(I.mk (some 3) none false (X.v (A.mov (O.k (V.int IntKind.i64 (Int.ofNat 0))))))] []) A45_9) A45_7)
def A45 : AC := (AC.seq (AC.reg [.clr [1]] [(I.mk (some 1) none false (X.box (O.t 0))), (I.mk (some 2) none false (X.v (A.mov (O.k (V.bool false)))))] []) A45_8)
def an45 : List An := [{ id := 0, pre := [.clr [1]], ep := [], lin := [], sp := [] }, { id := 4, pre := [.clr [4]], ep := [], lin := [], sp := [] }]
theorem c45 : cC Try.prog Try.f45.ntmps an45 (Try.f45.body.getD .skip) = some A45 := by kernel_rfl
structure H45 (D : Den) (σ : Sig) (F : Nat) : Prop where
  c62 : ∀ (x0 : Int) (x1 : Int) (x2 : Int) r, s_l1In F x0 x1 x2 = some r → D 62 [Enc.enc x0, Enc.enc x1, Enc.enc x2] = some (Enc.enc (r : Bool))
  g62 : σ 62 = some (0, false)
  c97 : ∀ (x0 : (Int × Int)) (x1 : (Int × Int)) r, s_l2Before F x0 x1 = some r → D 97 [Enc.enc x0, Enc.enc x1] = some (Enc.enc (r : Bool))
  g97 : σ 97 = some (0, false)
abbrev R45 (r : Bool) : (Nat → V) → Prop := RR Try.prog [.tmp 2] 0 false (Enc.enc (r : Bool))
section
variable {D : Den} {σ : Sig} {F : Nat} {r : Bool}
def s_l2Good_j1 (F : Nat) (g_1 : (Int × (List (Int × Int)))) (i_12 : Int) (c1 : Int → Option Bool) (t54_28 : Bool) : Option Bool :=
  bif t54_28 then
    some false
  else
    c1 (w64 (i_12 + 1))
theorem t_f45_j1 (H : H45 D σ F) (g_1 : (Int × (List (Int × Int)))) (i_12 : Int) (c1 : Int → Option Bool) (Hc1 : ∀ (i_12 : Int) (s : Nat → V), Facts [(1, (.ref (.bx 1) 0 [] (.agg [(.int .i64 g_1.1), (Enc.enc (g_1.2 : List (Int × Int)))]))), (2, (.bool false)), (3, (.int .i64 i_12))] s → c1 i_12 = some r → Run D σ (R45 r) (.run A45_1 [.lp A45_1, .bk 0, .sq A45_7]) s) (t54_28 : Bool) (s : Nat → V) (hs : Facts [(1, (.ref (.bx 1) 0 [] (.agg [(.int .i64 g_1.1), (Enc.enc (g_1.2 : List (Int × Int)))]))), (2, (.bool false)), (3, (.int .i64 i_12)), (54, (.bool t54_28))] s) (h : s_l2Good_j1 F g_1 i_12 c1 t54_28 = some r) : Run D σ (R45 r) (.nrm [.sq A45_5, .bk 1, .sq A45_6, .lp A45_1, .bk 0, .sq A45_7]) s := by
  unfold s_l2Good_j1 at h
  obtain ⟨h1, h2, h3, h54⟩ := hs
  refine .nsq ?_
  refine run_cond (t := t54_28) h54 h (fun h => ?_) (fun h => ?_)
  · refine .seq ?_
    refine run_reg ?_
    refine e_end ?_
    refine g_v0 (.bool false) rfl rfl ?_
    refine g_end ?_
    refine e_end ?_
    refine renew [(1, (.ref (.bx 1) 0 [] (.agg [(.int .i64 g_1.1), (Enc.enc (g_1.2 : List (Int × Int)))]))), (2, (.bool false)), (3, (.int .i64 i_12))] ⟨h1, rfl, h3⟩ ?_
    rintro s ⟨h1, h2, h3⟩
    refine .nsq ?_
    refine .ret ?_
    have hr := Option.some.inj h
    subst hr
    exact rrA (res_tmp h2) rfl
  · refine .skip ?_
    refine .nbk ?_
    refine .nsq ?_
    refine run_reg ?_
    refine e_end ?_
    refine g_v1 (t := 3) (u := (.int .i64 i_12)) (.int .i64 i_12) h3 rfl rfl ?_
    refine g_v1 (t := 10) (u := (.int .i64 i_12)) (.int .i64 (w64 (i_12 + 1))) rfl rfl rfl ?_
    refine g_v1 (t := 11) (u := (.int .i64 (w64 (i_12 + 1)))) (.int .i64 (w64 (i_12 + 1))) rfl rfl rfl ?_
    refine g_end ?_
    refine e_end ?_
    refine renew [(1, (.ref (.bx 1) 0 [] (.agg [(.int .i64 g_1.1), (Enc.enc (g_1.2 : List (Int × Int)))]))), (2, (.bool false)), (3, (.int .i64 (w64 (i_12 + 1))))] ⟨h1, h2, rfl⟩ ?_
    rintro s ⟨h1, h2, h3⟩
    refine .nlp ?_
    exact Hc1 (w64 (i_12 + 1)) _ ⟨h1, h2, h3⟩ h
def s_l2Good_l1 (F : Nat) (g_1 : (Int × (List (Int × Int))))  : Nat → Int → Option Bool
  | 0, _ => none
  | k + 1, i_12 =>
    bif decide (i_12 < (g_1.2.length : Int)) then
      (idx g_1.2 i_12).bind fun e_23 =>
      (s_l1In F e_23.1 0 (w64 (g_1.1 - 1))).bind fun r_29 =>
      bif (!r_29) then
        s_l2Good_j1 F g_1 i_12 (s_l2Good_l1 F g_1 k) true
      else
        (s_l1In F e_23.2 0 (w64 (g_1.1 - 1))).bind fun r_30 =>
        bif (!r_30) then
          s_l2Good_j1 F g_1 i_12 (s_l2Good_l1 F g_1 k) true
        else
          bif decide (e_23.1 ≥ e_23.2) then
            s_l2Good_j1 F g_1 i_12 (s_l2Good_l1 F g_1 k) true
          else
            bif decide (i_12 > 0) then
              (idx g_1.2 (w64 (i_12 - 1))).bind fun e_31 =>
              (s_l2Before F e_31 e_23).bind fun r_32 =>
              s_l2Good_j1 F g_1 i_12 (s_l2Good_l1 F g_1 k) (!r_32)
            else
              s_l2Good_j1 F g_1 i_12 (s_l2Good_l1 F g_1 k) false
    else
      (s_l1In F g_1.1 0 8).bind fun r_33 =>
      some r_33
theorem t_f45_l1 (H : H45 D σ F) (g_1 : (Int × (List (Int × Int))))  : ∀ (k : Nat) (i_12 : Int) (s : Nat → V), Facts [(1, (.ref (.bx 1) 0 [] (.agg [(.int .i64 g_1.1), (Enc.enc (g_1.2 : List (Int × Int)))]))), (2, (.bool false)), (3, (.int .i64 i_12))] s → s_l2Good_l1 F g_1 k i_12 = some r → Run D σ (R45 r) (.run A45_1 [.lp A45_1, .bk 0, .sq A45_7]) s := by
  intro k
  induction k with
  | zero => intro i_12 s _ h; exact nomatch (h : (none : Option _) = some r)
  | succ k ih =>
    intro i_12 s hs h
    rw [s_l2Good_l1] at h
    obtain ⟨h1, h2, h3⟩ := hs
    refine .seq ?_
    refine .seq ?_
    refine run_reg ?_
    refine e_end ?_
    refine g_v1 (t := 3) (u := (.int .i64 i_12)) (.int .i64 i_12) h3 rfl rfl ?_
    refine g_v1 (t := 1) (u := (.ref (.bx 1) 0 [] (.agg [(.int .i64 g_1.1), (Enc.enc (g_1.2 : List (Int × Int)))]))) (.ref (.bx 1) 0 [1] (Enc.enc (g_1.2 : List (Int × Int)))) h1 rfl rfl ?_
    refine g_v1 (t := 6) (u := (.ref (.bx 1) 0 [1] (Enc.enc (g_1.2 : List (Int × Int))))) (Enc.enc (g_1.2 : List (Int × Int))) rfl rfl rfl ?_
    refine g_v (.int .i64 (g_1.2.length : Int)) (ev_len (xs := g_1.2) rfl) ?_
    refine g_v2 (t1 := 5) (t2 := 8) (u1 := (.int .i64 i_12)) (u2 := (.int .i64 (g_1.2.length : Int))) (.bool (decide (i_12 < (g_1.2.length : Int)))) rfl rfl rfl rfl ?_
    refine g_end ?_
    refine e_end ?_
    refine renew [(1, (.ref (.bx 1) 0 [] (.agg [(.int .i64 g_1.1), (Enc.enc (g_1.2 : List (Int × Int)))]))), (2, (.bool false)), (3, (.int .i64 i_12)), (9, (.bool (decide (i_12 < (g_1.2.length : Int)))))] ⟨h1, h2, h3, rfl⟩ ?_
    rintro s ⟨h1, h2, h3, h9⟩
    refine .nsq ?_
    refine run_cond (t := decide (i_12 < (g_1.2.length : Int))) h9 h (fun h => ?_) (fun h => ?_)
    · refine .skip ?_
      refine .nsq ?_
      refine .seq ?_
      refine .block ?_
      refine .seq ?_
      refine run_reg ?_
      refine e_clr ?_
      refine e_end ?_
      refine g_v1 (t := 1) (u := (.ref (.bx 1) 0 [] (.agg [(.int .i64 g_1.1), (Enc.enc (g_1.2 : List (Int × Int)))]))) (.ref (.bx 1) 0 [1] (Enc.enc (g_1.2 : List (Int × Int)))) (keep_clear (s := s) (pk := [4]) h1 rfl (map_bx rfl (map_agg (maps_cons rfl (maps_cons (Enc.map_enc _ (g_1.2 : List (Int × Int))) maps_nil))))) rfl rfl ?_
      refine g_v1 (t := 12) (u := (.ref (.bx 1) 0 [1] (Enc.enc (g_1.2 : List (Int × Int))))) (Enc.enc (g_1.2 : List (Int × Int))) rfl rfl rfl ?_
      refine g_v1 (t := 3) (u := (.int .i64 i_12)) (.int .i64 i_12) (keep_clear (s := s) (pk := [4]) h3 rfl rfl) rfl rfl ?_
      obtain ⟨e_23, E_e_23, h⟩ := bind_some h
      refine g_v (.ref .sh 0 [] (.agg [(.int .i64 e_23.1), (.int .i64 e_23.2)])) (ev_idx (t := .sh) (lo := 0) (xs := g_1.2) rfl rfl E_e_23 rfl rfl) ?_
      refine g_v1 (t := 15) (u := (.ref .sh 0 [] (.agg [(.int .i64 e_23.1), (.int .i64 e_23.2)]))) (.agg [(.int .i64 e_23.1), (.int .i64 e_23.2)]) rfl rfl rfl ?_
      refine g_alloc (gone_clear (s := s) (pk := [4]) (t := 4) rfl) ?_
      refine g_store (.agg [(.int .i64 e_23.1), (.int .i64 e_23.2)]) (rd_of rfl rfl) (rd_of rfl rfl) (by refine ⟨by decide, by decide, rfl, rfl, rfl, ?_⟩; first | rfl | simp [V.toks, V.tokss, Enc.toks_enc]) ?_
      refine g_end ?_
      refine e_end ?_
      refine renew [(1, (.ref (.bx 1) 0 [] (.agg [(.int .i64 g_1.1), (Enc.enc (g_1.2 : List (Int × Int)))]))), (2, (.bool false)), (3, (.int .i64 i_12)), (4, (.ref (.bx 4) 0 [] (.agg [(.int .i64 e_23.1), (.int .i64 e_23.2)])))] ⟨(keep_mut (keep_clear (s := s) (pk := [4]) h1 rfl (map_bx rfl (map_agg (maps_cons rfl (maps_cons (Enc.map_enc _ (g_1.2 : List (Int × Int))) maps_nil))))) (mut_ref_ne rfl rfl (mut_agg (muts_cons rfl (muts_cons (Enc.mut_enc _ _ _ _ (g_1.2 : List (Int × Int))) rfl))))), (keep_mut (keep_clear (s := s) (pk := [4]) h2 rfl rfl) rfl), (keep_mut (keep_clear (s := s) (pk := [4]) h3 rfl rfl) rfl), (keep_mut rfl rfl)⟩ ?_
      rintro s ⟨h1, h2, h3, h4⟩
      refine .nsq ?_
      refine .seq ?_
      refine run_reg ?_
      refine e_end ?_
      refine g_v1 (t := 4) (u := (.ref (.bx 4) 0 [] (.agg [(.int .i64 e_23.1), (.int .i64 e_23.2)]))) (.ref (.bx 4) 0 [0] (.int .i64 e_23.1)) h4 rfl rfl ?_
      refine g_v1 (t := 17) (u := (.ref (.bx 4) 0 [0] (.int .i64 e_23.1))) (.int .i64 e_23.1) rfl rfl rfl ?_
      refine g_v1 (t := 1) (u := (.ref (.bx 1) 0 [] (.agg [(.int .i64 g_1.1), (Enc.enc (g_1.2 : List (Int × Int)))]))) (.ref (.bx 1) 0 [0] (.int .i64 g_1.1)) h1 rfl rfl ?_
      refine g_v1 (t := 19) (u := (.ref (.bx 1) 0 [0] (.int .i64 g_1.1))) (.int .i64 g_1.1) rfl rfl rfl ?_
      refine g_v1 (t := 20) (u := (.int .i64 g_1.1)) (.int .i64 (w64 (g_1.1 - 1))) rfl rfl rfl ?_
      obtain ⟨r_29, E_r_29, h⟩ := bind_some h
      refine g_call (m := 0) (al := false) (r := (Enc.enc (r_29 : Bool))) [Enc.enc (e_23.1 : Int), Enc.enc (0 : Int), Enc.enc (w64 (g_1.1 - 1) : Int)] (ta_cons (v := (.int .i64 e_23.1)) rfl rfl rfl (ta_cons (v := (.int .i64 0)) rfl rfl rfl (ta_cons (v := (.int .i64 (w64 (g_1.1 - 1)))) rfl rfl rfl ta_nil))) (H.c62 _ _ _ _ E_r_29) H.g62 rfl rfl rfl rfl ?_
      refine g_v1 (t := 22) (u := (.bool r_29)) (.bool (!r_29)) rfl rfl rfl ?_
      refine g_v1 (t := 23) (u := (.bool (!r_29))) (.bool (!r_29)) rfl rfl rfl ?_
      refine split_on (c := (!r_29)) h (fun hg8 h => ?_) (fun hg8 h => ?_)
      · refine g_no (Eq.trans (b := .bool (!r_29)) rfl (congrArg V.bool hg8)) ?_
        refine g_no (Eq.trans (b := .bool (!r_29)) rfl (congrArg V.bool hg8)) ?_
        refine g_no (Eq.trans (b := .bool (!r_29)) rfl (congrArg V.bool hg8)) ?_
        refine g_no (Eq.trans (b := .bool (!r_29)) rfl (congrArg V.bool hg8)) ?_
        refine g_no (Eq.trans (b := .bool (!r_29)) rfl (congrArg V.bool hg8)) ?_
        refine g_no (Eq.trans (b := .bool (!r_29)) rfl (congrArg V.bool hg8)) ?_
        refine g_no (Eq.trans (b := .bool (!r_29)) rfl (congrArg V.bool hg8)) ?_
        refine g_v2 (t1 := 24) (t2 := 31) (u1 := (.bool true)) (u2 := (.tup [])) (.bool true) (Eq.trans (b := .bool (!r_29)) rfl (congrArg V.bool hg8)) rfl rfl rfl ?_
        refine g_v1 (t := 32) (u := (.bool true)) (.bool true) rfl rfl rfl ?_
        refine g_no rfl ?_
        refine g_no rfl ?_
        refine g_no rfl ?_
        refine g_no rfl ?_
        refine g_no rfl ?_
        refine g_v2 (t1 := 33) (t2 := 38) (u1 := (.bool true)) (u2 := (.tup [])) (.bool true) rfl rfl rfl rfl ?_
        refine g_v1 (t := 39) (u := (.bool true)) (.bool true) rfl rfl rfl ?_
        refine g_no rfl ?_
        refine g_no rfl ?_
        refine g_no rfl ?_
        refine g_skip rfl ?_
        refine g_skip rfl ?_
        refine g_skip rfl ?_
        refine g_skip rfl ?_
        refine g_skip rfl ?_
        refine g_skip rfl ?_
        refine g_skip rfl ?_
        refine g_skip rfl ?_
        refine g_skip rfl ?_
        refine g_no rfl ?_
        refine g_v2 (t1 := 40) (t2 := 53) (u1 := (.bool true)) (u2 := (.tup [])) (.bool true) rfl rfl rfl rfl ?_
        refine g_end ?_
        refine e_end ?_
        refine renew [(1, (.ref (.bx 1) 0 [] (.agg [(.int .i64 g_1.1), (Enc.enc (g_1.2 : List (Int × Int)))]))), (2, (.bool false)), (3, (.int .i64 i_12)), (54, (.bool true))] ⟨h1, h2, h3, rfl⟩ ?_
        rintro s ⟨h1, h2, h3, h54⟩
        exact t_f45_j1 H g_1 i_12 (s_l2Good_l1 F g_1 k) ih true _ ⟨h1, h2, h3, h54⟩ h
      · refine g_yes (Eq.trans (b := .bool (!r_29)) rfl (congrArg V.bool hg8)) (g_v1 (t := 4) (u := (.ref (.bx 4) 0 [] (.agg [(.int .i64 e_23.1), (.int .i64 e_23.2)]))) (.ref (.bx 4) 0 [1] (.int .i64 e_23.2)) h4 rfl rfl ?_)
        refine g_yes (Eq.trans (b := .bool (!r_29)) rfl (congrArg V.bool hg8)) (g_v1 (t := 25) (u := (.ref (.bx 4) 0 [1] (.int .i64 e_23.2))) (.int .i64 e_23.2) rfl rfl rfl ?_)
        refine g_yes (Eq.trans (b := .bool (!r_29)) rfl (congrArg V.bool hg8)) (g_v1 (t := 1) (u := (.ref (.bx 1) 0 [] (.agg [(.int .i64 g_1.1), (Enc.enc (g_1.2 : List (Int × Int)))]))) (.ref (.bx 1) 0 [0] (.int .i64 g_1.1)) h1 rfl rfl ?_)
        refine g_yes (Eq.trans (b := .bool (!r_29)) rfl (congrArg V.bool hg8)) (g_v1 (t := 27) (u := (.ref (.bx 1) 0 [0] (.int .i64 g_1.1))) (.int .i64 g_1.1) rfl rfl rfl ?_)
        refine g_yes (Eq.trans (b := .bool (!r_29)) rfl (congrArg V.bool hg8)) (g_v1 (t := 28) (u := (.int .i64 g_1.1)) (.int .i64 (w64 (g_1.1 - 1))) rfl rfl rfl ?_)
        obtain ⟨r_30, E_r_30, h⟩ := bind_some h
        refine g_yes (Eq.trans (b := .bool (!r_29)) rfl (congrArg V.bool hg8)) (g_call (m := 0) (al := false) (r := (Enc.enc (r_30 : Bool))) [Enc.enc (e_23.2 : Int), Enc.enc (0 : Int), Enc.enc (w64 (g_1.1 - 1) : Int)] (ta_cons (v := (.int .i64 e_23.2)) rfl rfl rfl (ta_cons (v := (.int .i64 0)) rfl rfl rfl (ta_cons (v := (.int .i64 (w64 (g_1.1 - 1)))) rfl rfl rfl ta_nil))) (H.c62 _ _ _ _ E_r_30) H.g62 rfl rfl rfl rfl ?_)
        refine g_yes (Eq.trans (b := .bool (!r_29)) rfl (congrArg V.bool hg8)) (g_v1 (t := 30) (u := (.bool r_30)) (.bool (!r_30)) rfl rfl rfl ?_)
        refine g_v2 (t1 := 24) (t2 := 31) (u1 := (.bool false)) (u2 := (.bool (!r_30))) (.bool (!r_30)) (Eq.trans (b := .bool (!r_29)) rfl (congrArg V.bool hg8)) rfl rfl rfl ?_
        refine g_v1 (t := 32) (u := (.bool (!r_30))) (.bool (!r_30)) rfl rfl rfl ?_
        refine split_on (c := (!r_30)) h (fun hg17 h => ?_) (fun hg17 h => ?_)
        · refine g_no (Eq.trans (b := .bool (!r_30)) rfl (congrArg V.bool hg17)) ?_
          refine g_no (Eq.trans (b := .bool (!r_30)) rfl (congrArg V.bool hg17)) ?_
          refine g_no (Eq.trans (b := .bool (!r_30)) rfl (congrArg V.bool hg17)) ?_
          refine g_no (Eq.trans (b := .bool (!r_30)) rfl (congrArg V.bool hg17)) ?_
          refine g_no (Eq.trans (b := .bool (!r_30)) rfl (congrArg V.bool hg17)) ?_
          refine g_v2 (t1 := 33) (t2 := 38) (u1 := (.bool true)) (u2 := (.tup [])) (.bool true) (Eq.trans (b := .bool (!r_30)) rfl (congrArg V.bool hg17)) rfl rfl rfl ?_
          refine g_v1 (t := 39) (u := (.bool true)) (.bool true) rfl rfl rfl ?_
          refine g_no rfl ?_
          refine g_no rfl ?_
          refine g_no rfl ?_
          refine g_skip rfl ?_
          refine g_skip rfl ?_
          refine g_skip rfl ?_
          refine g_skip rfl ?_
          refine g_skip rfl ?_
          refine g_skip rfl ?_
          refine g_skip rfl ?_
          refine g_skip rfl ?_
          refine g_skip rfl ?_
          refine g_no rfl ?_
          refine g_v2 (t1 := 40) (t2 := 53) (u1 := (.bool true)) (u2 := (.tup [])) (.bool true) rfl rfl rfl rfl ?_
          refine g_end ?_
          refine e_end ?_
          refine renew [(1, (.ref (.bx 1) 0 [] (.agg [(.int .i64 g_1.1), (Enc.enc (g_1.2 : List (Int × Int)))]))), (2, (.bool false)), (3, (.int .i64 i_12)), (54, (.bool true))] ⟨h1, h2, h3, rfl⟩ ?_
          rintro s ⟨h1, h2, h3, h54⟩
          exact t_f45_j1 H g_1 i_12 (s_l2Good_l1 F g_1 k) ih true _ ⟨h1, h2, h3, h54⟩ h
        · refine g_yes (Eq.trans (b := .bool (!r_30)) rfl (congrArg V.bool hg17)) (g_v1 (t := 4) (u := (.ref (.bx 4) 0 [] (.agg [(.int .i64 e_23.1), (.int .i64 e_23.2)]))) (.ref (.bx 4) 0 [0] (.int .i64 e_23.1)) h4 rfl rfl ?_)
          refine g_yes (Eq.trans (b := .bool (!r_30)) rfl (congrArg V.bool hg17)) (g_v1 (t := 34) (u := (.ref (.bx 4) 0 [0] (.int .i64 e_23.1))) (.int .i64 e_23.1) rfl rfl rfl ?_)
          refine g_yes (Eq.trans (b := .bool (!r_30)) rfl (congrArg V.bool hg17)) (g_v1 (t := 4) (u := (.ref (.bx 4) 0 [] (.agg [(.int .i64 e_23.1), (.int .i64 e_23.2)]))) (.ref (.bx 4) 0 [1] (.int .i64 e_23.2)) h4 rfl rfl ?_)
          refine g_yes (Eq.trans (b := .bool (!r_30)) rfl (congrArg V.bool hg17)) (g_v1 (t := 36) (u := (.ref (.bx 4) 0 [1] (.int .i64 e_23.2))) (.int .i64 e_23.2) rfl rfl rfl ?_)
          refine g_yes (Eq.trans (b := .bool (!r_30)) rfl (congrArg V.bool hg17)) (g_v2 (t1 := 35) (t2 := 37) (u1 := (.int .i64 e_23.1)) (u2 := (.int .i64 e_23.2)) (.bool (decide (e_23.1 ≥ e_23.2))) rfl rfl rfl rfl ?_)
          refine g_v2 (t1 := 33) (t2 := 38) (u1 := (.bool false)) (u2 := (.bool (decide (e_23.1 ≥ e_23.2)))) (.bool (decide (e_23.1 ≥ e_23.2))) (Eq.trans (b := .bool (!r_30)) rfl (congrArg V.bool hg17)) rfl rfl rfl ?_
          refine g_v1 (t := 39) (u := (.bool (decide (e_23.1 ≥ e_23.2)))) (.bool (decide (e_23.1 ≥ e_23.2))) rfl rfl rfl ?_
          refine split_on (c := decide (e_23.1 ≥ e_23.2)) h (fun hg24 h => ?_) (fun hg24 h => ?_)
          · refine g_no (Eq.trans (b := .bool (decide (e_23.1 ≥ e_23.2))) rfl (congrArg V.bool hg24)) ?_
            refine g_no (Eq.trans (b := .bool (decide (e_23.1 ≥ e_23.2))) rfl (congrArg V.bool hg24)) ?_
            refine g_no (Eq.trans (b := .bool (decide (e_23.1 ≥ e_23.2))) rfl (congrArg V.bool hg24)) ?_
            refine g_skip rfl ?_
            refine g_skip rfl ?_
            refine g_skip rfl ?_
            refine g_skip rfl ?_
            refine g_skip rfl ?_
            refine g_skip rfl ?_
            refine g_skip rfl ?_
            refine g_skip rfl ?_
            refine g_skip rfl ?_
            refine g_no (Eq.trans (b := .bool (decide (e_23.1 ≥ e_23.2))) rfl (congrArg V.bool hg24)) ?_
            refine g_v2 (t1 := 40) (t2 := 53) (u1 := (.bool true)) (u2 := (.tup [])) (.bool true) (Eq.trans (b := .bool (decide (e_23.1 ≥ e_23.2))) rfl (congrArg V.bool hg24)) rfl rfl rfl ?_
            refine g_end ?_
            refine e_end ?_
            refine renew [(1, (.ref (.bx 1) 0 [] (.agg [(.int .i64 g_1.1), (Enc.enc (g_1.2 : List (Int × Int)))]))), (2, (.bool false)), (3, (.int .i64 i_12)), (54, (.bool true))] ⟨h1, h2, h3, rfl⟩ ?_
            rintro s ⟨h1, h2, h3, h54⟩
            exact t_f45_j1 H g_1 i_12 (s_l2Good_l1 F g_1 k) ih true _ ⟨h1, h2, h3, h54⟩ h
          · refine g_yes (Eq.trans (b := .bool (decide (e_23.1 ≥ e_23.2))) rfl (congrArg V.bool hg24)) (g_v1 (t := 3) (u := (.int .i64 i_12)) (.int .i64 i_12) h3 rfl rfl ?_)
            refine g_yes (Eq.trans (b := .bool (decide (e_23.1 ≥ e_23.2))) rfl (congrArg V.bool hg24)) (g_v1 (t := 41) (u := (.int .i64 i_12)) (.bool (decide (i_12 > 0))) rfl rfl rfl ?_)
            refine g_yes (Eq.trans (b := .bool (decide (e_23.1 ≥ e_23.2))) rfl (congrArg V.bool hg24)) (g_v1 (t := 42) (u := (.bool (decide (i_12 > 0)))) (.bool (decide (i_12 > 0))) rfl rfl rfl ?_)
            refine split_on (c := decide (i_12 > 0)) h (fun hg27 h => ?_) (fun hg27 h => ?_)
            · refine g_yes (Eq.trans (b := .bool (decide (i_12 > 0))) rfl (congrArg V.bool hg27)) (g_v1 (t := 1) (u := (.ref (.bx 1) 0 [] (.agg [(.int .i64 g_1.1), (Enc.enc (g_1.2 : List (Int × Int)))]))) (.ref (.bx 1) 0 [1] (Enc.enc (g_1.2 : List (Int × Int)))) h1 rfl rfl ?_)
              refine g_yes (Eq.trans (b := .bool (decide (i_12 > 0))) rfl (congrArg V.bool hg27)) (g_v1 (t := 44) (u := (.ref (.bx 1) 0 [1] (Enc.enc (g_1.2 : List (Int × Int))))) (Enc.enc (g_1.2 : List (Int × Int))) rfl rfl rfl ?_)
              refine g_yes (Eq.trans (b := .bool (decide (i_12 > 0))) rfl (congrArg V.bool hg27)) (g_v1 (t := 3) (u := (.int .i64 i_12)) (.int .i64 i_12) h3 rfl rfl ?_)
              refine g_yes (Eq.trans (b := .bool (decide (i_12 > 0))) rfl (congrArg V.bool hg27)) (g_v1 (t := 46) (u := (.int .i64 i_12)) (.int .i64 (w64 (i_12 - 1))) rfl rfl rfl ?_)
              obtain ⟨e_31, E_e_31, h⟩ := bind_some h
              refine g_yes (Eq.trans (b := .bool (decide (i_12 > 0))) rfl (congrArg V.bool hg27)) (g_v (.ref .sh 0 [] (.agg [(.int .i64 e_31.1), (.int .i64 e_31.2)])) (ev_idx (t := .sh) (lo := 0) (xs := g_1.2) rfl rfl E_e_31 rfl rfl) ?_)
              refine g_yes (Eq.trans (b := .bool (decide (i_12 > 0))) rfl (congrArg V.bool hg27)) (g_v1 (t := 48) (u := (.ref .sh 0 [] (.agg [(.int .i64 e_31.1), (.int .i64 e_31.2)]))) (.agg [(.int .i64 e_31.1), (.int .i64 e_31.2)]) rfl rfl rfl ?_)
              refine g_yes (Eq.trans (b := .bool (decide (i_12 > 0))) rfl (congrArg V.bool hg27)) (g_v1 (t := 4) (u := (.ref (.bx 4) 0 [] (.agg [(.int .i64 e_23.1), (.int .i64 e_23.2)]))) (.agg [(.int .i64 e_23.1), (.int .i64 e_23.2)]) h4 rfl rfl ?_)
              obtain ⟨r_32, E_r_32, h⟩ := bind_some h
              refine g_yes (Eq.trans (b := .bool (decide (i_12 > 0))) rfl (congrArg V.bool hg27)) (g_call (m := 0) (al := false) (r := (Enc.enc (r_32 : Bool))) [Enc.enc (e_31 : (Int × Int)), Enc.enc (e_23 : (Int × Int))] (ta_cons (v := (.agg [(.int .i64 e_31.1), (.int .i64 e_31.2)])) rfl rfl (Enc.erase_enc (e_31 : (Int × Int))) (ta_cons (v := (.agg [(.int .i64 e_23.1), (.int .i64 e_23.2)])) rfl rfl (Enc.erase_enc (e_23 : (Int × Int))) ta_nil)) (H.c97 _ _ _ E_r_32) H.g97 rfl rfl rfl rfl ?_)
              refine g_yes (Eq.trans (b := .bool (decide (i_12 > 0))) rfl (congrArg V.bool hg27)) (g_v1 (t := 51) (u := (.bool r_32)) (.bool (!r_32)) rfl rfl rfl ?_)
              refine g_yes (Eq.trans (b := .bool (decide (e_23.1 ≥ e_23.2))) rfl (congrArg V.bool hg24)) (g_v2 (t1 := 43) (t2 := 52) (u1 := (.bool true)) (u2 := (.bool (!r_32))) (.bool (!r_32)) (Eq.trans (b := .bool (decide (i_12 > 0))) rfl (congrArg V.bool hg27)) rfl rfl rfl ?_)
              refine g_v2 (t1 := 40) (t2 := 53) (u1 := (.bool false)) (u2 := (.bool (!r_32))) (.bool (!r_32)) (Eq.trans (b := .bool (decide (e_23.1 ≥ e_23.2))) rfl (congrArg V.bool hg24)) rfl rfl rfl ?_
              refine g_end ?_
              refine e_end ?_
              refine renew [(1, (.ref (.bx 1) 0 [] (.agg [(.int .i64 g_1.1), (Enc.enc (g_1.2 : List (Int × Int)))]))), (2, (.bool false)), (3, (.int .i64 i_12)), (54, (.bool (!r_32)))] ⟨h1, h2, h3, rfl⟩ ?_
              rintro s ⟨h1, h2, h3, h54⟩
              exact t_f45_j1 H g_1 i_12 (s_l2Good_l1 F g_1 k) ih (!r_32) _ ⟨h1, h2, h3, h54⟩ h
            · refine g_no (Eq.trans (b := .bool (decide (i_12 > 0))) rfl (congrArg V.bool hg27)) ?_
              refine g_no (Eq.trans (b := .bool (decide (i_12 > 0))) rfl (congrArg V.bool hg27)) ?_
              refine g_no (Eq.trans (b := .bool (decide (i_12 > 0))) rfl (congrArg V.bool hg27)) ?_
              refine g_no (Eq.trans (b := .bool (decide (i_12 > 0))) rfl (congrArg V.bool hg27)) ?_
              refine g_no (Eq.trans (b := .bool (decide (i_12 > 0))) rfl (congrArg V.bool hg27)) ?_
              refine g_no (Eq.trans (b := .bool (decide (i_12 > 0))) rfl (congrArg V.bool hg27)) ?_
              refine g_no (Eq.trans (b := .bool (decide (i_12 > 0))) rfl (congrArg V.bool hg27)) ?_
              refine g_no (Eq.trans (b := .bool (decide (i_12 > 0))) rfl (congrArg V.bool hg27)) ?_
              refine g_no (Eq.trans (b := .bool (decide (i_12 > 0))) rfl (congrArg V.bool hg27)) ?_
              refine g_yes (Eq.trans (b := .bool (decide (e_23.1 ≥ e_23.2))) rfl (congrArg V.bool hg24)) (g_v2 (t1 := 43) (t2 := 52) (u1 := (.bool false)) (u2 := (.tup [])) (.bool false) (Eq.trans (b := .bool (decide (i_12 > 0))) rfl (congrArg V.bool hg27)) rfl rfl rfl ?_)
              refine g_v2 (t1 := 40) (t2 := 53) (u1 := (.bool false)) (u2 := (.bool false)) (.bool false) (Eq.trans (b := .bool (decide (e_23.1 ≥ e_23.2))) rfl (congrArg V.bool hg24)) rfl rfl rfl ?_
              refine g_end ?_
              refine e_end ?_
              refine renew [(1, (.ref (.bx 1) 0 [] (.agg [(.int .i64 g_1.1), (Enc.enc (g_1.2 : List (Int × Int)))]))), (2, (.bool false)), (3, (.int .i64 i_12)), (54, (.bool false))] ⟨h1, h2, h3, rfl⟩ ?_
              rintro s ⟨h1, h2, h3, h54⟩
              exact t_f45_j1 H g_1 i_12 (s_l2Good_l1 F g_1 k) ih false _ ⟨h1, h2, h3, h54⟩ h
    · refine .exit ?_
      refine .esq ?_
      refine .elp ?_
      refine .ebk ?_
      refine .nsq ?_
      refine .seq ?_
      refine run_reg ?_
      refine e_end ?_
      refine g_v1 (t := 1) (u := (.ref (.bx 1) 0 [] (.agg [(.int .i64 g_1.1), (Enc.enc (g_1.2 : List (Int × Int)))]))) (.ref (.bx 1) 0 [0] (.int .i64 g_1.1)) h1 rfl rfl ?_
      refine g_v1 (t := 55) (u := (.ref (.bx 1) 0 [0] (.int .i64 g_1.1))) (.int .i64 g_1.1) rfl rfl rfl ?_
      obtain ⟨r_33, E_r_33, h⟩ := bind_some h
      refine g_call (m := 0) (al := false) (r := (Enc.enc (r_33 : Bool))) [Enc.enc (g_1.1 : Int), Enc.enc (0 : Int), Enc.enc (8 : Int)] (ta_cons (v := (.int .i64 g_1.1)) rfl rfl rfl (ta_cons (v := (.int .i64 0)) rfl rfl rfl (ta_cons (v := (.int .i64 8)) rfl rfl rfl ta_nil))) (H.c62 _ _ _ _ E_r_33) H.g62 rfl rfl rfl rfl ?_
      refine g_v1 (t := 57) (u := (.bool r_33)) (.bool r_33) rfl rfl rfl ?_
      refine g_end ?_
      refine e_end ?_
      refine renew [(2, (.bool r_33))] rfl ?_
      rintro s h2
      refine .nsq ?_
      refine .ret ?_
      have hr := Option.some.inj h
      subst hr
      exact rrA (res_tmp h2) rfl
def s_l2Good (F : Nat) (g_1 : (Int × (List (Int × Int)))) : Option Bool :=
  s_l2Good_l1 F g_1 F 0
theorem t45 (H : H45 D σ F) (g_1 : (Int × (List (Int × Int)))) (s : Nat → V) (hs : Facts [(0, (.agg [(.int .i64 g_1.1), (Enc.enc (g_1.2 : List (Int × Int)))]))] s) (h : s_l2Good F g_1 = some r) : Run D σ (R45 r) (.run A45 []) s := by
  unfold s_l2Good at h
  have h0 := hs
  refine .seq ?_
  refine run_reg ?_
  refine e_clr ?_
  refine e_end ?_
  refine g_box (.agg [(.int .i64 g_1.1), (Enc.enc (g_1.2 : List (Int × Int)))]) (rd_of (keep_clear (s := s) (pk := [1]) h0 rfl (map_agg (maps_cons rfl (maps_cons (Enc.map_enc _ (g_1.2 : List (Int × Int))) maps_nil)))) rfl) (gone_clear (s := s) (pk := [1]) (t := 1) rfl) rfl ?_
  refine g_v0 (.bool false) rfl rfl ?_
  refine g_end ?_
  refine e_end ?_
  refine renew [(1, (.ref (.bx 1) 0 [] (.agg [(.int .i64 g_1.1), (Enc.enc (g_1.2 : List (Int × Int)))]))), (2, (.bool false))] ⟨rfl, rfl⟩ ?_
  rintro s ⟨h1, h2⟩
  refine .nsq ?_
  refine .seq ?_
  refine .seq ?_
  refine run_reg ?_
  refine e_end ?_
  refine g_v0 (.int .i64 0) rfl rfl ?_
  refine g_end ?_
  refine e_end ?_
  refine renew [(1, (.ref (.bx 1) 0 [] (.agg [(.int .i64 g_1.1), (Enc.enc (g_1.2 : List (Int × Int)))]))), (2, (.bool false)), (3, (.int .i64 0))] ⟨h1, h2, rfl⟩ ?_
  rintro s ⟨h1, h2, h3⟩
  refine .nsq ?_
  refine .block ?_
  refine .loop ?_
  exact t_f45_l1 H g_1 F 0 _ ⟨h1, h2, h3⟩ h
end
def e45 (F : Nat) : Ent := ⟨45, da (fun (x : ((Int × (List (Int × Int))) × Unit)) => s_l2Good F x.1) (fun (r : Bool) => (Enc.enc (r : Bool))), 0, false, selF []⟩
theorem p45 {F : Nat} {x0 : (Int × (List (Int × Int)))} {r : Bool} (h : s_l2Good F x0 = some r) : (e45 F).den [Enc.enc x0] = some (Enc.enc (r : Bool)) := da_put (f := fun (x : ((Int × (List (Int × Int))) × Unit)) => s_l2Good F x.1) (t := fun (r : Bool) => (Enc.enc (r : Bool))) (x0, ()) h
theorem o45 {D : Den} {σ : Sig} {F : Nat} (hF : Fits2 Try.prog D σ) (H : H45 D σ F) : (e45 F).Ok Try.prog := by
  refine ok_of (f := 45) (show unk 45 = 45 from rfl) (fun args r h => ?_) ⟨Try.f45, Try.func45, rfl, rfl⟩
  obtain ⟨⟨x0, _⟩, y, rfl, hy, rfl⟩ := da_open h
  exact contract_run hF (by kernel_rfl) Try.func45 rfl c45 (show 1 ≤ Try.f45.ntmps by decide) (t45 H x0 _ rfl hy)
/- loop.example/g01109/spec.l1Has -/
def A98_2 : AC := (AC.cond (O.t 9) AC.skip (AC.exit 0))
def A98_4 : AC := (AC.cond (O.t 17) (AC.seq (AC.reg [] [(I.mk (some 4) none false (X.v (A.mov (O.k (V.bool true)))))] []) AC.ret) AC.skip)
def A98_5 : AC := (AC.reg [] [(I.mk (some 10) none false (X.v (A.mov (O.t 5)))), (I.mk (some 11) none false (X.v (A.bin BinOp.add (O.t 10) (O.k (V.int IntKind.i64 (Int.ofNat 1)))))), (I.mk (some 5) none false (X.v (A.mov (O.t 11))))] [])
def A98_3 : AC := (AC.seq (AC.block 1 (AC.seq (AC.reg [] [(I.mk (some 12) none false (X.v (A.mov (O.t 0)))), (I.mk (some 13) none false (X.v (A.mov (O.t 5)))), (I.mk (some 14) none false (X.v (A.idx (O.t 12) (O.t 13) 1))), (I.mk (some 15) none false (X.v (A.load Sh.s (O.t 14)))), (I.mk (some 16) none false (X.v (A.mov (O.t 1)))), (I.mk (some 17) none false (X.v (A.bin BinOp.eql (O.t 15) (O.t 16))))] []) A98_4)) A98_5)
def A98_1 : AC := (AC.seq (AC.seq (AC.reg [] [(I.mk (some 6) none false (X.v (A.mov (O.t 5)))), (I.mk (some 7) none false (X.v (A.mov (O.t 0)))), (I.mk (some 8) none false (X.v (A.len (O.t 7)))), (I.mk (some 9) none false (X.v (A.bin BinOp.lss (O.t 6) (O.t 8))))] []) A98_2) A98_3)
def A98_6 : AC := (AC.seq (AC.reg [] [(I.mk (some 4) none false (X.v (A.mov (O.k (V.bool false)))))] []) AC.ret)
def A98_8 : AC := (AC.block 0 (AC.loop A98_1))
def A98_7 : AC := (AC.seq (AC.seq (AC.reg [] [(I.mk (some 5) none false (X.v (A.mov (O.k (V.int IntKind.i64 (Int.ofNat 0))))))] []) A98_8) A98_6)
def A98 : AC := (AC.seq (AC.reg [] [(I.mk (some 4) none false (X.v (A.mov (O.k (V.bool false)))))] []) A98_7)
def an98 : List An := []
theorem c98 : cC Try.prog Try.f98.ntmps an98 (Try.f98.body.getD .skip) = some A98 := by kernel_rfl
structure H98 (D : Den) (σ : Sig) (F : Nat) : Prop where
  mk ::
abbrev R98 (r : Bool) : (Nat → V) → Prop := RR Try.prog [.tmp 4] 0 false (Enc.enc (r : Bool))
section
variable {D : Den} {σ : Sig} {F : Nat} {r : Bool}
def s_l1Has_l1 (F : Nat) (l_1 : (List Int)) (n_2 : Int)  : Nat → Int → Option Bool
  | 0, _ => none
  | k + 1, i_4 =>
    bif decide (i_4 < (l_1.length : Int)) then
      (idx l_1 i_4).bind fun e_6 =>
      bif (e_6 == n_2) then
        some true
      else
        (s_l1Has_l1 F l_1 n_2 k) (w64 (i_4 + 1))
    else
      some false
theorem t_f98_l1 (H : H98 D σ F) (l_1 : (List Int)) (n_2 : Int)  : ∀ (k : Nat) (i_4 : Int) (s : Nat → V), Facts [(0, (Enc.enc (l_1 : List Int))), (1, (.int .i64 n_2)), (4, (.bool false)), (5, (.int .i64 i_4))] s → s_l1Has_l1 F l_1 n_2 k i_4 = some r → Run D σ (R98 r) (.run A98_1 [.lp A98_1, .bk 0, .sq A98_6]) s := by
  intro k
  induction k with
  | zero => intro i_4 s _ h; exact nomatch (h : (none : Option _) = some r)
  | succ k ih =>
    intro i_4 s hs h
    rw [s_l1Has_l1] at h
    obtain ⟨h0, h1, h4, h5⟩ := hs
    refine .seq ?_
    refine .seq ?_
    refine run_reg ?_
    refine e_end ?_
    refine g_v1 (t := 5) (u := (.int .i64 i_4)) (.int .i64 i_4) h5 rfl rfl ?_
    refine g_v1 (t := 0) (u := (Enc.enc (l_1 : List Int))) (Enc.enc (l_1 : List Int)) h0 rfl rfl ?_
    refine g_v (.int .i64 (l_1.length : Int)) (ev_len (xs := l_1) rfl) ?_
    refine g_v2 (t1 := 6) (t2 := 8) (u1 := (.int .i64 i_4)) (u2 := (.int .i64 (l_1.length : Int))) (.bool (decide (i_4 < (l_1.length : Int)))) rfl rfl rfl rfl ?_
    refine g_end ?_
    refine e_end ?_
    refine renew [(0, (Enc.enc (l_1 : List Int))), (1, (.int .i64 n_2)), (4, (.bool false)), (5, (.int .i64 i_4)), (9, (.bool (decide (i_4 < (l_1.length : Int)))))] ⟨h0, h1, h4, h5, rfl⟩ ?_
    rintro s ⟨h0, h1, h4, h5, h9⟩
    refine .nsq ?_
    refine run_cond (t := decide (i_4 < (l_1.length : Int))) h9 h (fun h => ?_) (fun h => ?_)
    · refine .skip ?_
      refine .nsq ?_
      refine .seq ?_
      refine .block ?_
      refine .seq ?_
      refine run_reg ?_
      refine e_end ?_
      refine g_v1 (t := 0) (u := (Enc.enc (l_1 : List Int))) (Enc.enc (l_1 : List Int)) h0 rfl rfl ?_
      refine g_v1 (t := 5) (u := (.int .i64 i_4)) (.int .i64 i_4) h5 rfl rfl ?_
      obtain ⟨e_6, E_e_6, h⟩ := bind_some h
      refine g_v (.ref .sh 0 [] (.int .i64 e_6)) (ev_idx (t := .sh) (lo := 0) (xs := l_1) rfl rfl E_e_6 rfl rfl) ?_
      refine g_v1 (t := 14) (u := (.ref .sh 0 [] (.int .i64 e_6))) (.int .i64 e_6) rfl rfl rfl ?_
      refine g_v1 (t := 1) (u := (.int .i64 n_2)) (.int .i64 n_2) h1 rfl rfl ?_
      refine g_v2 (t1 := 15) (t2 := 16) (u1 := (.int .i64 e_6)) (u2 := (.int .i64 n_2)) (.bool (e_6 == n_2)) rfl rfl rfl rfl ?_
      refine g_end ?_
      refine e_end ?_
      refine renew [(0, (Enc.enc (l_1 : List Int))), (1, (.int .i64 n_2)), (4, (.bool false)), (5, (.int .i64 i_4)), (17, (.bool (e_6 == n_2)))] ⟨h0, h1, h4, h5, rfl⟩ ?_
      rintro s ⟨h0, h1, h4, h5, h17⟩
      refine .nsq ?_
      refine run_cond (t := (e_6 == n_2)) h17 h (fun h => ?_) (fun h => ?_)
      · refine .seq ?_
        refine run_reg ?_
        refine e_end ?_
        refine g_v0 (.bool true) rfl rfl ?_
        refine g_end ?_
        refine e_end ?_
        refine renew [(0, (Enc.enc (l_1 : List Int))), (1, (.int .i64 n_2)), (4, (.bool true)), (5, (.int .i64 i_4))] ⟨h0, h1, rfl, h5⟩ ?_
        rintro s ⟨h0, h1, h4, h5⟩
        refine .nsq ?_
        refine .ret ?_
        have hr := Option.some.inj h
        subst hr
        exact rrA (res_tmp h4) rfl
      · refine .skip ?_
        refine .nbk ?_
        refine .nsq ?_
        refine run_reg ?_
        refine e_end ?_
        refine g_v1 (t := 5) (u := (.int .i64 i_4)) (.int .i64 i_4) h5 rfl rfl ?_
        refine g_v1 (t := 10) (u := (.int .i64 i_4)) (.int .i64 (w64 (i_4 + 1))) rfl rfl rfl ?_
        refine g_v1 (t := 11) (u := (.int .i64 (w64 (i_4 + 1)))) (.int .i64 (w64 (i_4 + 1))) rfl rfl rfl ?_
        refine g_end ?_
        refine e_end ?_
        refine renew [(0, (Enc.enc (l_1 : List Int))), (1, (.int .i64 n_2)), (4, (.bool false)), (5, (.int .i64 (w64 (i_4 + 1))))] ⟨h0, h1, h4, rfl⟩ ?_
        rintro s ⟨h0, h1, h4, h5⟩
        refine .nlp ?_
        exact ih (w64 (i_4 + 1)) _ ⟨h0, h1, h4, h5⟩ h
    · refine .exit ?_
      refine .esq ?_
      refine .elp ?_
      refine .ebk ?_
      refine .nsq ?_
      refine .seq ?_
      refine run_reg ?_
      refine e_end ?_
      refine g_v0 (.bool false) rfl rfl ?_
      refine g_end ?_
      refine e_end ?_
      refine renew [(4, (.bool false))] rfl ?_
      rintro s h4
      refine .nsq ?_
      refine .ret ?_
      have hr := Option.some.inj h
      subst hr
      exact rrA (res_tmp h4) rfl
def s_l1Has (F : Nat) (l_1 : (List Int)) (n_2 : Int) : Option Bool :=
  s_l1Has_l1 F l_1 n_2 F 0
theorem t98 (H : H98 D σ F) (l_1 : (List Int)) (n_2 : Int) (s : Nat → V) (hs : Facts [(0, (Enc.enc (l_1 : List Int))), (1, (.int .i64 n_2))] s) (h : s_l1Has F l_1 n_2 = some r) : Run D σ (R98 r) (.run A98 []) s := by
  unfold s_l1Has at h
  obtain ⟨h0, h1⟩ := hs
  refine .seq ?_
  refine run_reg ?_
  refine e_end ?_
  refine g_v0 (.bool false) rfl rfl ?_
  refine g_end ?_
  refine e_end ?_
  refine renew [(0, (Enc.enc (l_1 : List Int))), (1, (.int .i64 n_2)), (4, (.bool false))] ⟨h0, h1, rfl⟩ ?_
  rintro s ⟨h0, h1, h4⟩
  refine .nsq ?_
  refine .seq ?_
  refine .seq ?_
  refine run_reg ?_
  refine e_end ?_
  refine g_v0 (.int .i64 0) rfl rfl ?_
  refine g_end ?_
  refine e_end ?_
  refine renew [(0, (Enc.enc (l_1 : List Int))), (1, (.int .i64 n_2)), (4, (.bool false)), (5, (.int .i64 0))] ⟨h0, h1, h4, rfl⟩ ?_
  rintro s ⟨h0, h1, h4, h5⟩
  refine .nsq ?_
  refine .block ?_
  refine .loop ?_
  exact t_f98_l1 H l_1 n_2 F 0 _ ⟨h0, h1, h4, h5⟩ h
end
def e98 (F : Nat) : Ent := ⟨98, da (fun (x : ((List Int) × Int × Unit)) => s_l1Has F x.1 x.2.1) (fun (r : Bool) => (Enc.enc (r : Bool))), 0, false, selF []⟩
theorem p98 {F : Nat} {x0 : (List Int)} {x1 : Int} {r : Bool} (h : s_l1Has F x0 x1 = some r) : (e98 F).den [Enc.enc x0, Enc.enc x1] = some (Enc.enc (r : Bool)) := da_put (f := fun (x : ((List Int) × Int × Unit)) => s_l1Has F x.1 x.2.1) (t := fun (r : Bool) => (Enc.enc (r : Bool))) (x0, x1, ()) h
theorem o98 {D : Den} {σ : Sig} {F : Nat} (hF : Fits2 Try.prog D σ) (H : H98 D σ F) : (e98 F).Ok Try.prog := by
  refine ok_of (f := 98) (show unk 98 = 98 from rfl) (fun args r h => ?_) ⟨Try.f98, Try.func98, rfl, rfl⟩
  obtain ⟨⟨x0, x1, _⟩, y, rfl, hy, rfl⟩ := da_open h
  exact contract_run hF (by kernel_rfl) Try.func98 rfl c98 (show 2 ≤ Try.f98.ntmps by decide) (t98 H x0 x1 _ ⟨rfl, rfl⟩ hy)
/- loop.example/g01109/spec.l2Each -/
def A108_2 : AC := (AC.cond (O.t 9) AC.skip (AC.exit 0))
def A108_4 : AC := (AC.cond (O.t 15) (AC.seq (AC.reg [] [(I.mk (some 4) none false (X.v (A.mov (O.k (V.bool false)))))] []) AC.ret) AC.skip)
def A108_5 : AC := (AC.reg [] [(I.mk (some 10) none false (X.v (A.mov (O.t 5)))), (I.mk (some 11) none false (X.v (A.bin BinOp.add (O.t 10) (O.k (V.int IntKind.i64 (Int.ofNat 1)))))), (I.mk (some 5) none false (X.v (A.mov (O.t 11))))] [])
def A108_3 : AC := (AC.seq (AC.block 1 (AC.seq (AC.reg [] [(I.mk (some 12) none false (X.v (A.mov (O.t 1)))), (I.mk (some 13) none false (X.v (A.mov (O.t 5)))), (I.mk (some 14) none false (X.call (O.k (V.fn 98 [] [])) [(O.t 12), (O.t 13)])), (I.mk (some 15) none false (X.v (A.un UnOp.not (O.t 14))))] []) A108_4)) A108_5)
def A108_1 : AC := (AC.seq (AC.seq (AC.reg [] [(I.mk (some 6) none false (X.v (A.mov (O.t 5)))), (I.mk (some 7) none false (X.v (A.fld (O.t 2) 0 0))), (I.mk (some 8) none false (X.v (A.load Sh.s (O.t 7)))), (I.mk (some 9) none false (X.v (A.bin BinOp.lss (O.t 6) (O.t 8))))] []) A108_2) A108_3)
def A108_6 : AC := (AC.seq (AC.reg [] [(I.mk (some 16) none false (X.v (A.mov (O.t 1)))), (I.mk (some 17) none false (X.v (A.len (O.t 16)))), (I.mk (some 18) none false (X.v (A.fld (O.t 2) 0 0))), (I.mk (some 19) none false (X.v (A.load Sh.s (O.t 18)))), (I.mk (some 20) none false (X.v (A.bin BinOp.eql (O.t 17) (O.t 19)))), (I.mk (some 4) none false (X.v (A.mov (O.t 20))))] []) AC.ret)
def A108_8 : AC := (AC.block 0 (AC.loop A108_1))
def A108_7 : AC := (AC.seq (AC.seq (AC.reg [] [(I.mk (some 5) none false (X.v (A.mov (O.k (V.int IntKind.i64 (Int.ofNat 0))))))] []) A108_8) A108_6)
def A108 : AC := (AC.seq (AC.reg [.clr [2]] [(I.mk (some 2) none false (X.box (O.t 0))), (I.mk (some 4) none false (X.v (A.mov (O.k (V.bool false)))))] []) A108_7)
def an108 : List An := [{ id := 0, pre := [.clr [2]], ep := [], lin := [], sp := [] }]
theorem c108 : cC Try.prog Try.f108.ntmps an108 (Try.f108.body.getD .skip) = some A108 := by kernel_rfl
structure H108 (D : Den) (σ : Sig) (F : Nat) : Prop where
  c98 : ∀ (x0 : (List Int)) (x1 : Int) r, s_l1Has F x0 x1 = some r → D 98 [Enc.enc x0, Enc.enc x1] = some (Enc.enc (r : Bool))
  g98 : σ 98 = some (0, false)
abbrev R108 (r : Bool) : (Nat → V) → Prop := RR Try.prog [.tmp 4] 0 false (Enc.enc (r : Bool))
section
variable {D : Den} {σ : Sig} {F : Nat} {r : Bool}
def s_l2Each_l1 (F : Nat) (to_2 : (List Int)) (g_1 : (Int × (List (Int × Int))))  : Nat → Int → Option Bool
  | 0, _ => none
  | k + 1, x_4 =>
    bif decide (x_4 < g_1.1) then
      (s_l1Has F to_2 x_4).bind fun r_6 =>
      bif (!r_6) then
        some false
      else
        (s_l2Each_l1 F to_2 g_1 k) (w64 (x_4 + 1))
    else
      some ((to_2.length : Int) == g_1.1)
theorem t_f108_l1 (H : H108 D σ F) (to_2 : (List Int)) (g_1 : (Int × (List (Int × Int))))  : ∀ (k : Nat) (x_4 : Int) (s : Nat → V), Facts [(1, (Enc.enc (to_2 : List Int))), (2, (.ref (.bx 2) 0 [] (.agg [(.int .i64 g_1.1), (Enc.enc (g_1.2 : List (Int × Int)))]))), (4, (.bool false)), (5, (.int .i64 x_4))] s → s_l2Each_l1 F to_2 g_1 k x_4 = some r → Run D σ (R108 r) (.run A108_1 [.lp A108_1, .bk 0, .sq A108_6]) s := by
  intro k
  induction k with
  | zero => intro x_4 s _ h; exact nomatch (h : (none : Option _) = some r)
  | succ k ih =>
    intro x_4 s hs h
    rw [s_l2Each_l1] at h
    obtain ⟨h1, h2, h4, h5⟩ := hs
    refine .seq ?_
    refine .seq ?_
    refine run_reg ?_
    refine e_end ?_
    refine g_v1 (t := 5) (u := (.int .i64 x_4)) (.int .i64 x_4) h5 rfl rfl ?_
    refine g_v1 (t := 2) (u := (.ref (.bx 2) 0 [] (.agg [(.int .i64 g_1.1), (Enc.enc (g_1.2 : List (Int × Int)))]))) (.ref (.bx 2) 0 [0] (.int .i64 g_1.1)) h2 rfl rfl ?_
    refine g_v1 (t := 7) (u := (.ref (.bx 2) 0 [0] (.int .i64 g_1.1))) (.int .i64 g_1.1) rfl rfl rfl ?_
    refine g_v2 (t1 := 6) (t2 := 8) (u1 := (.int .i64 x_4)) (u2 := (.int .i64 g_1.1)) (.bool (decide (x_4 < g_1.1))) rfl rfl rfl rfl ?_
    refine g_end ?_
    refine e_end ?_
    refine renew [(1, (Enc.enc (to_2 : List Int))), (2, (.ref (.bx 2) 0 [] (.agg [(.int .i64 g_1.1), (Enc.enc (g_1.2 : List (Int × Int)))]))), (4, (.bool false)), (5, (.int .i64 x_4)), (9, (.bool (decide (x_4 < g_1.1))))] ⟨h1, h2, h4, h5, rfl⟩ ?_
    rintro s ⟨h1, h2, h4, h5, h9⟩
    refine .nsq ?_
    refine run_cond (t := decide (x_4 < g_1.1)) h9 h (fun h => ?_) (fun h => ?_)
    · refine .skip ?_
      refine .nsq ?_
      refine .seq ?_
      refine .block ?_
      refine .seq ?_
      refine run_reg ?_
      refine e_end ?_
      refine g_v1 (t := 1) (u := (Enc.enc (to_2 : List Int))) (Enc.enc (to_2 : List Int)) h1 rfl rfl ?_
      refine g_v1 (t := 5) (u := (.int .i64 x_4)) (.int .i64 x_4) h5 rfl rfl ?_
      obtain ⟨r_6, E_r_6, h⟩ := bind_some h
      refine g_call (m := 0) (al := false) (r := (Enc.enc (r_6 : Bool))) [Enc.enc (to_2 : (List Int)), Enc.enc (x_4 : Int)] (ta_cons (v := (Enc.enc (to_2 : List Int))) rfl rfl (Enc.erase_enc (to_2 : (List Int))) (ta_cons (v := (.int .i64 x_4)) rfl rfl rfl ta_nil)) (H.c98 _ _ _ E_r_6) H.g98 rfl rfl rfl rfl ?_
      refine g_v1 (t := 14) (u := (.bool r_6)) (.bool (!r_6)) rfl rfl rfl ?_
      refine g_end ?_
      refine e_end ?_
      refine renew [(1, (Enc.enc (to_2 : List Int))), (2, (.ref (.bx 2) 0 [] (.agg [(.int .i64 g_1.1), (Enc.enc (g_1.2 : List (Int × Int)))]))), (4, (.bool false)), (5, (.int .i64 x_4)), (15, (.bool (!r_6)))] ⟨h1, h2, h4, h5, rfl⟩ ?_
      rintro s ⟨h1, h2, h4, h5, h15⟩
      refine .nsq ?_
      refine run_cond (t := (!r_6)) h15 h (fun h => ?_) (fun h => ?_)
      · refine .seq ?_
        refine run_reg ?_
        refine e_end ?_
        refine g_v0 (.bool false) rfl rfl ?_
        refine g_end ?_
        refine e_end ?_
        refine renew [(1, (Enc.enc (to_2 : List Int))), (2, (.ref (.bx 2) 0 [] (.agg [(.int .i64 g_1.1), (Enc.enc (g_1.2 : List (Int × Int)))]))), (4, (.bool false)), (5, (.int .i64 x_4))] ⟨h1, h2, rfl, h5⟩ ?_
        rintro s ⟨h1, h2, h4, h5⟩
        refine .nsq ?_
        refine .ret ?_
        have hr := Option.some.inj h
        subst hr
        exact rrA (res_tmp h4) rfl
      · refine .skip ?_
        refine .nbk ?_
        refine .nsq ?_
        refine run_reg ?_
        refine e_end ?_
        refine g_v1 (t := 5) (u := (.int .i64 x_4)) (.int .i64 x_4) h5 rfl rfl ?_
        refine g_v1 (t := 10) (u := (.int .i64 x_4)) (.int .i64 (w64 (x_4 + 1))) rfl rfl rfl ?_
        refine g_v1 (t := 11) (u := (.int .i64 (w64 (x_4 + 1)))) (.int .i64 (w64 (x_4 + 1))) rfl rfl rfl ?_
        refine g_end ?_
        refine e_end ?_
        refine renew [(1, (Enc.enc (to_2 : List Int))), (2, (.ref (.bx 2) 0 [] (.agg [(.int .i64 g_1.1), (Enc.enc (g_1.2 : List (Int × Int)))]))), (4, (.bool false)), (5, (.int .i64 (w64 (x_4 + 1))))] ⟨h1, h2, h4, rfl⟩ ?_
        rintro s ⟨h1, h2, h4, h5⟩
        refine .nlp ?_
        exact ih (w64 (x_4 + 1)) _ ⟨h1, h2, h4, h5⟩ h
    · refine .exit ?_
      refine .esq ?_
      refine .elp ?_
      refine .ebk ?_
      refine .nsq ?_
      refine .seq ?_
      refine run_reg ?_
      refine e_end ?_
      refine g_v1 (t := 1) (u := (Enc.enc (to_2 : List Int))) (Enc.enc (to_2 : List Int)) h1 rfl rfl ?_
      refine g_v (.int .i64 (to_2.length : Int)) (ev_len (xs := to_2) rfl) ?_
      refine g_v1 (t := 2) (u := (.ref (.bx 2) 0 [] (.agg [(.int .i64 g_1.1), (Enc.enc (g_1.2 : List (Int × Int)))]))) (.ref (.bx 2) 0 [0] (.int .i64 g_1.1)) h2 rfl rfl ?_
      refine g_v1 (t := 18) (u := (.ref (.bx 2) 0 [0] (.int .i64 g_1.1))) (.int .i64 g_1.1) rfl rfl rfl ?_
      refine g_v2 (t1 := 17) (t2 := 19) (u1 := (.int .i64 (to_2.length : Int))) (u2 := (.int .i64 g_1.1)) (.bool ((to_2.length : Int) == g_1.1)) rfl rfl rfl rfl ?_
      refine g_v1 (t := 20) (u := (.bool ((to_2.length : Int) == g_1.1))) (.bool ((to_2.length : Int) == g_1.1)) rfl rfl rfl ?_
      refine g_end ?_
      refine e_end ?_
      refine renew [(4, (.bool ((to_2.length : Int) == g_1.1)))] rfl ?_
      rintro s h4
      refine .nsq ?_
      refine .ret ?_
      have hr := Option.some.inj h
      subst hr
      exact rrA (res_tmp h4) rfl
def s_l2Each (F : Nat) (g_1 : (Int × (List (Int × Int)))) (to_2 : (List Int)) : Option Bool :=
  s_l2Each_l1 F to_2 g_1 F 0
theorem t108 (H : H108 D σ F) (g_1 : (Int × (List (Int × Int)))) (to_2 : (List Int)) (s : Nat → V) (hs : Facts [(0, (.agg [(.int .i64 g_1.1), (Enc.enc (g_1.2 : List (Int × Int)))])), (1, (Enc.enc (to_2 : List Int)))] s) (h : s_l2Each F g_1 to_2 = some r) : Run D σ (R108 r) (.run A108 []) s := by
  unfold s_l2Each at h
  obtain ⟨h0, h1⟩ := hs
  refine .seq ?_
  refine run_reg ?_
  refine e_clr ?_
  refine e_end ?_
  refine g_box (.agg [(.int .i64 g_1.1), (Enc.enc (g_1.2 : List (Int × Int)))]) (rd_of (keep_clear (s := s) (pk := [2]) h0 rfl (map_agg (maps_cons rfl (maps_cons (Enc.map_enc _ (g_1.2 : List (Int × Int))) maps_nil)))) rfl) (gone_clear (s := s) (pk := [2]) (t := 2) rfl) rfl ?_
  refine g_v0 (.bool false) rfl rfl ?_
  refine g_end ?_
  refine e_end ?_
  refine renew [(1, (Enc.enc (to_2 : List Int))), (2, (.ref (.bx 2) 0 [] (.agg [(.int .i64 g_1.1), (Enc.enc (g_1.2 : List (Int × Int)))]))), (4, (.bool false))] ⟨(keep_clear (s := s) (pk := [2]) h1 rfl (Enc.map_enc _ (to_2 : List Int))), rfl, rfl⟩ ?_
  rintro s ⟨h1, h2, h4⟩
  refine .nsq ?_
  refine .seq ?_
  refine .seq ?_
  refine run_reg ?_
  refine e_end ?_
  refine g_v0 (.int .i64 0) rfl rfl ?_
  refine g_end ?_
  refine e_end ?_
  refine renew [(1, (Enc.enc (to_2 : List Int))), (2, (.ref (.bx 2) 0 [] (.agg [(.int .i64 g_1.1), (Enc.enc (g_1.2 : List (Int × Int)))]))), (4, (.bool false)), (5, (.int .i64 0))] ⟨h1, h2, h4, rfl⟩ ?_
  rintro s ⟨h1, h2, h4, h5⟩
  refine .nsq ?_
  refine .block ?_
  refine .loop ?_
  exact t_f108_l1 H to_2 g_1 F 0 _ ⟨h1, h2, h4, h5⟩ h
end
def e108 (F : Nat) : Ent := ⟨108, da (fun (x : ((Int × (List (Int × Int))) × (List Int) × Unit)) => s_l2Each F x.1 x.2.1) (fun (r : Bool) => (Enc.enc (r : Bool))), 0, false, selF []⟩
theorem p108 {F : Nat} {x0 : (Int × (List (Int × Int)))} {x1 : (List Int)} {r : Bool} (h : s_l2Each F x0 x1 = some r) : (e108 F).den [Enc.enc x0, Enc.enc x1] = some (Enc.enc (r : Bool)) := da_put (f := fun (x : ((Int × (List (Int × Int))) × (List Int) × Unit)) => s_l2Each F x.1 x.2.1) (t := fun (r : Bool) => (Enc.enc (r : Bool))) (x0, x1, ()) h
theorem o108 {D : Den} {σ : Sig} {F : Nat} (hF : Fits2 Try.prog D σ) (H : H108 D σ F) : (e108 F).Ok Try.prog := by
  refine ok_of (f := 108) (show unk 108 = 108 from rfl) (fun args r h => ?_) ⟨Try.f108, Try.func108, rfl, rfl⟩
  obtain ⟨⟨x0, x1, _⟩, y, rfl, hy, rfl⟩ := da_open h
  exact contract_run hF (by kernel_rfl) Try.func108 rfl c108 (show 2 ≤ Try.f108.ntmps by decide) (t108 H x0 x1 _ ⟨rfl, rfl⟩ hy)
/- loop.example/g01109/spec.l5Order -/
def A94_1 : AC := (AC.seq (AC.reg [] [(I.mk (some 5) none false (X.v (A.load (Sh.ag [Sh.s, Sh.p]) (O.t 2)))), (I.mk (some 6) none false (X.call (O.k (V.fn 45 [] [])) [(O.t 5)])), (I.mk (some 7) none false (X.v (A.mov (O.t 6)))), (I.mk (some 8) (some (7, true)) false (X.v (A.load (Sh.ag [Sh.s, Sh.p]) (O.t 2)))), (I.mk (some 9) (some (7, true)) false (X.v (A.mov (O.t 1)))), (I.mk (some 10) (some (7, true)) false (X.call (O.k (V.fn 108 [] [])) [(O.t 8), (O.t 9)])), (I.mk (some 11) none false (X.v (A.pick (O.t 7) (O.t 10) (O.k (V.bool false))))), (I.mk (some 4) none false (X.v (A.mov (O.t 11))))] []) AC.ret)
def A94 : AC := (AC.seq (AC.reg [.clr [2]] [(I.mk (some 2) none false (X.box (O.t 0))), (I.mk (some 4) none false (X.v (A.mov (O.k (V.bool false)))))] []) A94_1)
def an94 : List An := [{ id := 0, pre := [.clr [2]], ep := [], lin := [], sp := [] }]
theorem c94 : cC Try.prog Try.f94.ntmps an94 (Try.f94.body.getD .skip) = some A94 := by kernel_rfl
structure H94 (D : Den) (σ : Sig) (F : Nat) : Prop where
  c45 : ∀ (x0 : (Int × (List (Int × Int)))) r, s_l2Good F x0 = some r → D 45 [Enc.enc x0] = some (Enc.enc (r : Bool))
  g45 : σ 45 = some (0, false)
  c108 : ∀ (x0 : (Int × (List (Int × Int)))) (x1 : (List Int)) r, s_l2Each F x0 x1 = some r → D 108 [Enc.enc x0, Enc.enc x1] = some (Enc.enc (r : Bool))
  g108 : σ 108 = some (0, false)
abbrev R94 (r : Bool) : (Nat → V) → Prop := RR Try.prog [.tmp 4] 0 false (Enc.enc (r : Bool))
section
variable {D : Den} {σ : Sig} {F : Nat} {r : Bool}
def s_l5Order (F : Nat) (g_1 : (Int × (List (Int × Int)))) (order_2 : (List Int)) : Option Bool :=
  (s_l2Good F g_1).bind fun r_3 =>
  bif r_3 then
    (s_l2Each F g_1 order_2).bind fun r_4 =>
    some r_4
  else
    some false
theorem t94 (H : H94 D σ F) (g_1 : (Int × (List (Int × Int)))) (order_2 : (List Int)) (s : Nat → V) (hs : Facts [(0, (.agg [(.int .i64 g_1.1), (Enc.enc (g_1.2 : List (Int × Int)))])), (1, (Enc.enc (order_2 : List Int)))] s) (h : s_l5Order F g_1 order_2 = some r) : Run D σ (R94 r) (.run A94 []) s := by
  unfold s_l5Order at h
  obtain ⟨h0, h1⟩ := hs
  refine .seq ?_
  refine run_reg ?_
  refine e_clr ?_
  refine e_end ?_
  refine g_box (.agg [(.int .i64 g_1.1), (Enc.enc (g_1.2 : List (Int × Int)))]) (rd_of (keep_clear (s := s) (pk := [2]) h0 rfl (map_agg (maps_cons rfl (maps_cons (Enc.map_enc _ (g_1.2 : List (Int × Int))) maps_nil)))) rfl) (gone_clear (s := s) (pk := [2]) (t := 2) rfl) rfl ?_
  refine g_v0 (.bool false) rfl rfl ?_
  refine g_end ?_
  refine e_end ?_
  refine renew [(1, (Enc.enc (order_2 : List Int))), (2, (.ref (.bx 2) 0 [] (.agg [(.int .i64 g_1.1), (Enc.enc (g_1.2 : List (Int × Int)))]))), (4, (.bool false))] ⟨(keep_clear (s := s) (pk := [2]) h1 rfl (Enc.map_enc _ (order_2 : List Int))), rfl, rfl⟩ ?_
  rintro s ⟨h1, h2, h4⟩
  refine .nsq ?_
  refine .seq ?_
  refine run_reg ?_
  refine e_end ?_
  refine g_v1 (t := 2) (u := (.ref (.bx 2) 0 [] (.agg [(.int .i64 g_1.1), (Enc.enc (g_1.2 : List (Int × Int)))]))) (.agg [(.int .i64 g_1.1), (Enc.enc (g_1.2 : List (Int × Int)))]) h2 rfl rfl ?_
  obtain ⟨r_3, E_r_3, h⟩ := bind_some h
  refine g_call (m := 0) (al := false) (r := (Enc.enc (r_3 : Bool))) [Enc.enc (g_1 : (Int × (List (Int × Int))))] (ta_cons (v := (.agg [(.int .i64 g_1.1), (Enc.enc (g_1.2 : List (Int × Int)))])) rfl rfl (Enc.erase_enc (g_1 : (Int × (List (Int × Int))))) ta_nil) (H.c45 _ _ E_r_3) H.g45 rfl rfl rfl rfl ?_
  refine g_v1 (t := 6) (u := (.bool r_3)) (.bool r_3) rfl rfl rfl ?_
  refine split_on (c := r_3) h (fun hg3 h => ?_) (fun hg3 h => ?_)
  · refine g_yes (Eq.trans (b := .bool r_3) rfl (congrArg V.bool hg3)) (g_v1 (t := 2) (u := (.ref (.bx 2) 0 [] (.agg [(.int .i64 g_1.1), (Enc.enc (g_1.2 : List (Int × Int)))]))) (.agg [(.int .i64 g_1.1), (Enc.enc (g_1.2 : List (Int × Int)))]) h2 rfl rfl ?_)
    refine g_yes (Eq.trans (b := .bool r_3) rfl (congrArg V.bool hg3)) (g_v1 (t := 1) (u := (Enc.enc (order_2 : List Int))) (Enc.enc (order_2 : List Int)) h1 rfl rfl ?_)
    obtain ⟨r_4, E_r_4, h⟩ := bind_some h
    refine g_yes (Eq.trans (b := .bool r_3) rfl (congrArg V.bool hg3)) (g_call (m := 0) (al := false) (r := (Enc.enc (r_4 : Bool))) [Enc.enc (g_1 : (Int × (List (Int × Int)))), Enc.enc (order_2 : (List Int))] (ta_cons (v := (.agg [(.int .i64 g_1.1), (Enc.enc (g_1.2 : List (Int × Int)))])) rfl rfl (Enc.erase_enc (g_1 : (Int × (List (Int × Int))))) (ta_cons (v := (Enc.enc (order_2 : List Int))) rfl rfl (Enc.erase_enc (order_2 : (List Int))) ta_nil)) (H.c108 _ _ _ E_r_4) H.g108 rfl rfl rfl rfl ?_)
    refine g_v2 (t1 := 7) (t2 := 10) (u1 := (.bool true)) (u2 := (.bool r_4)) (.bool r_4) (Eq.trans (b := .bool r_3) rfl (congrArg V.bool hg3)) rfl rfl rfl ?_
    refine g_v1 (t := 11) (u := (.bool r_4)) (.bool r_4) rfl rfl rfl ?_
    refine g_end ?_
    refine e_end ?_
    refine renew [(4, (.bool r_4))] rfl ?_
    rintro s h4
    refine .nsq ?_
    refine .ret ?_
    have hr := Option.some.inj h
    subst hr
    exact rrA (res_tmp h4) rfl
  · refine g_no (Eq.trans (b := .bool r_3) rfl (congrArg V.bool hg3)) ?_
    refine g_no (Eq.trans (b := .bool r_3) rfl (congrArg V.bool hg3)) ?_
    refine g_no (Eq.trans (b := .bool r_3) rfl (congrArg V.bool hg3)) ?_
    refine g_v2 (t1 := 7) (t2 := 10) (u1 := (.bool false)) (u2 := (.tup [])) (.bool false) (Eq.trans (b := .bool r_3) rfl (congrArg V.bool hg3)) rfl rfl rfl ?_
    refine g_v1 (t := 11) (u := (.bool false)) (.bool false) rfl rfl rfl ?_
    refine g_end ?_
    refine e_end ?_
    refine renew [(4, (.bool false))] rfl ?_
    rintro s h4
    refine .nsq ?_
    refine .ret ?_
    have hr := Option.some.inj h
    subst hr
    exact rrA (res_tmp h4) rfl
end
def e94 (F : Nat) : Ent := ⟨94, da (fun (x : ((Int × (List (Int × Int))) × (List Int) × Unit)) => s_l5Order F x.1 x.2.1) (fun (r : Bool) => (Enc.enc (r : Bool))), 0, false, selF []⟩
theorem p94 {F : Nat} {x0 : (Int × (List (Int × Int)))} {x1 : (List Int)} {r : Bool} (h : s_l5Order F x0 x1 = some r) : (e94 F).den [Enc.enc x0, Enc.enc x1] = some (Enc.enc (r : Bool)) := da_put (f := fun (x : ((Int × (List (Int × Int))) × (List Int) × Unit)) => s_l5Order F x.1 x.2.1) (t := fun (r : Bool) => (Enc.enc (r : Bool))) (x0, x1, ()) h
theorem o94 {D : Den} {σ : Sig} {F : Nat} (hF : Fits2 Try.prog D σ) (H : H94 D σ F) : (e94 F).Ok Try.prog := by
  refine ok_of (f := 94) (show unk 94 = 94 from rfl) (fun args r h => ?_) ⟨Try.f94, Try.func94, rfl, rfl⟩
  obtain ⟨⟨x0, x1, _⟩, y, rfl, hy, rfl⟩ := da_open h
  exact contract_run hF (by kernel_rfl) Try.func94 rfl c94 (show 2 ≤ Try.f94.ntmps by decide) (t94 H x0 x1 _ ⟨rfl, rfl⟩ hy)
/- loop.example/g01109/spec.l2Near -/
def A117_2 : AC := (AC.cond (O.t 13) AC.skip (AC.exit 0))
def A117_5 : AC := (AC.cond (O.t 42) (AC.seq (AC.reg [] [(I.mk (some 6) none false (X.v (A.mov (O.k (V.bool true)))))] []) AC.ret) AC.skip)
def A117_4 : AC := (AC.seq (AC.reg [] [(I.mk (some 21) none false (X.v (A.idxA (O.t 8) (O.k (V.int IntKind.i64 (Int.ofNat 0))) 2 1))), (I.mk (some 22) none false (X.v (A.load Sh.s (O.t 21)))), (I.mk (some 23) none false (X.v (A.mov (O.t 1)))), (I.mk (some 24) none false (X.v (A.bin BinOp.eql (O.t 22) (O.t 23)))), (I.mk (some 25) none false (X.v (A.mov (O.t 24)))), (I.mk (some 26) (some (25, true)) false (X.v (A.idxA (O.t 8) (O.k (V.int IntKind.i64 (Int.ofNat 1))) 2 1))), (I.mk (some 27) (some (25, true)) false (X.v (A.load Sh.s (O.t 26)))), (I.mk (some 28) (some (25, true)) false (X.v (A.mov (O.t 2)))), (I.mk (some 29) (some (25, true)) false (X.v (A.bin BinOp.eql (O.t 27) (O.t 28)))), (I.mk (some 30) none false (X.v (A.pick (O.t 25) (O.t 29) (O.k (V.bool false))))), (I.mk (some 31) none false (X.v (A.mov (O.t 30)))), (I.mk (some 32) (some (31, false)) false (X.v (A.idxA (O.t 8) (O.k (V.int IntKind.i64 (Int.ofNat 0))) 2 1))), (I.mk (some 33) (some (31, false)) false (X.v (A.load Sh.s (O.t 32)))), (I.mk (some 34) (some (31, false)) false (X.v (A.mov (O.t 2)))), (I.mk (some 35) (some (31, false)) false (X.v (A.bin BinOp.eql (O.t 33) (O.t 34)))), (I.mk (some 36) (some (31, false)) false (X.v (A.mov (O.t 35)))), (I.mk (some 37) (some (36, true)) false (X.v (A.idxA (O.t 8) (O.k (V.int IntKind.i64 (Int.ofNat 1))) 2 1))), (I.mk (some 38) (some (36, true)) false (X.v (A.load Sh.s (O.t 37)))), (I.mk (some 39) (some (36, true)) false (X.v (A.mov (O.t 1)))), (I.mk (some 40) (some (36, true)) false (X.v (A.bin BinOp.eql (O.t 38) (O.t 39)))), (I.mk (some 41) (some (31, false)) false (X.v (A.pick (O.t 36) (O.t 40) (O.k (V.bool false))))), (I.mk (some 42) none false (X.v (A.pick (O.t 31) (O.k (V.bool true)) (O.t 41))))] []) A117_5)
def A117_6 : AC := (AC.reg [] [(I.mk (some 14) none false (X.v (A.mov (O.t 7)))), (I.mk (some 15) none false (X.v (A.bin BinOp.add (O.t 14) (O.k (V.int IntKind.i64 (Int.ofNat 1)))))), (I.mk (some 7) none false (X.v (A.mov (O.t 15))))] [])
def A117_3 : AC := (AC.seq (AC.block 1 (AC.seq (AC.reg [.clr [8]] [(I.mk (some 16) none false (X.v (A.fld (O.t 3) 1 1))), (I.mk (some 17) none false (X.v (A.load Sh.p (O.t 16)))), (I.mk (some 18) none false (X.v (A.mov (O.t 7)))), (I.mk (some 19) none false (X.v (A.idx (O.t 17) (O.t 18) 2))), (I.mk (some 20) none false (X.v (A.load (Sh.ag [Sh.s, Sh.s]) (O.t 19)))), (I.mk (some 8) none false (X.alloc (V.agg [(V.int IntKind.i64 (Int.ofNat 0)), (V.int IntKind.i64 (Int.ofNat 0))]))), (I.mk none none false (X.store (Sh.ag [Sh.s, Sh.s]) (O.t 8) (O.t 20)))] []) A117_4)) A117_6)
def A117_1 : AC := (AC.seq (AC.seq (AC.reg [] [(I.mk (some 9) none false (X.v (A.mov (O.t 7)))), (I.mk (some 10) none false (X.v (A.fld (O.t 3) 1 1))), (I.mk (some 11) none false (X.v (A.load Sh.p (O.t 10)))), (I.mk (some 12) none false (X.v (A.len (O.t 11)))), (I.mk (some 13) none false (X.v (A.bin BinOp.lss (O.t 9) (O.t 12))))] []) A117_2) A117_3)
def A117_7 : AC := (AC.seq (AC.reg [] [(I.mk (some 6) none false (X.v (A.mov (O.k (V.bool false)))))] []) AC.ret)
def A117_9 : AC := (AC.block 0 (AC.loop A117_1))
def A117_8 : AC := (AC.seq (AC.seq (AC.reg [] [(I.mk (some 7) none false (X.v (A.mov (O.k (V.int IntKind.i64 (Int.ofNat 0))))))] []) A117_9) A117_7)
def A117 : AC := (AC.seq (AC.reg [.clr [3]] [(I.mk (some 3) none false (X.box (O.t 0))), (I.mk (some 6) none false (X.v (A.mov (O.k (V.bool false)))))] []) A117_8)
def an117 : List An := [{ id := 0, pre := [.clr [3]], ep := [], lin := [], sp := [] }, { id := 4, pre := [.clr [8]], ep := [], lin := [], sp := [] }]
theorem c117 : cC Try.prog Try.f117.ntmps an117 (Try.f117.body.getD .skip) = some A117 := by kernel_rfl
structure H117 (D : Den) (σ : Sig) (F : Nat) : Prop where
  mk ::
abbrev R117 (r : Bool) : (Nat → V) → Prop := RR Try.prog [.tmp 6] 0 false (Enc.enc (r : Bool))
section
variable {D : Den} {σ : Sig} {F : Nat} {r : Bool}
def s_l2Near_j1 (F : Nat) (a_2 : Int) (b_3 : Int) (g_1 : (Int × (List (Int × Int)))) (i_6 : Int) (c1 : Int → Option Bool) (t42_10 : Bool) : Option Bool :=
  bif t42_10 then
    some true
  else
    c1 (w64 (i_6 + 1))
theorem t_f117_j1 (H : H117 D σ F) (a_2 : Int) (b_3 : Int) (g_1 : (Int × (List (Int × Int)))) (i_6 : Int) (c1 : Int → Option Bool) (Hc1 : ∀ (i_6 : Int) (s : Nat → V), Facts [(1, (.int .i64 a_2)), (2, (.int .i64 b_3)), (3, (.ref (.bx 3) 0 [] (.agg [(.int .i64 g_1.1), (Enc.enc (g_1.2 : List (Int × Int)))]))), (6, (.bool false)), (7, (.int .i64 i_6))] s → c1 i_6 = some r → Run D σ (R117 r) (.run A117_1 [.lp A117_1, .bk 0, .sq A117_7]) s) (t42_10 : Bool) (s : Nat → V) (hs : Facts [(1, (.int .i64 a_2)), (2, (.int .i64 b_3)), (3, (.ref (.bx 3) 0 [] (.agg [(.int .i64 g_1.1), (Enc.enc (g_1.2 : List (Int × Int)))]))), (6, (.bool false)), (7, (.int .i64 i_6)), (42, (.bool t42_10))] s) (h : s_l2Near_j1 F a_2 b_3 g_1 i_6 c1 t42_10 = some r) : Run D σ (R117 r) (.nrm [.sq A117_5, .bk 1, .sq A117_6, .lp A117_1, .bk 0, .sq A117_7]) s := by
  unfold s_l2Near_j1 at h
  obtain ⟨h1, h2, h3, h6, h7, h42⟩ := hs
  refine .nsq ?_
  refine run_cond (t := t42_10) h42 h (fun h => ?_) (fun h => ?_)
  · refine .seq ?_
    refine run_reg ?_
    refine e_end ?_
    refine g_v0 (.bool true) rfl rfl ?_
    refine g_end ?_
    refine e_end ?_
    refine renew [(1, (.int .i64 a_2)), (2, (.int .i64 b_3)), (3, (.ref (.bx 3) 0 [] (.agg [(.int .i64 g_1.1), (Enc.enc (g_1.2 : List (Int × Int)))]))), (6, (.bool true)), (7, (.int .i64 i_6))] ⟨h1, h2, h3, rfl, h7⟩ ?_
    rintro s ⟨h1, h2, h3, h6, h7⟩
    refine .nsq ?_
    refine .ret ?_
    have hr := Option.some.inj h
    subst hr
    exact rrA (res_tmp h6) rfl
  · refine .skip ?_
    refine .nbk ?_
    refine .nsq ?_
    refine run_reg ?_
    refine e_end ?_
    refine g_v1 (t := 7) (u := (.int .i64 i_6)) (.int .i64 i_6) h7 rfl rfl ?_
    refine g_v1 (t := 14) (u := (.int .i64 i_6)) (.int .i64 (w64 (i_6 + 1))) rfl rfl rfl ?_
    refine g_v1 (t := 15) (u := (.int .i64 (w64 (i_6 + 1)))) (.int .i64 (w64 (i_6 + 1))) rfl rfl rfl ?_
    refine g_end ?_
    refine e_end ?_
    refine renew [(1, (.int .i64 a_2)), (2, (.int .i64 b_3)), (3, (.ref (.bx 3) 0 [] (.agg [(.int .i64 g_1.1), (Enc.enc (g_1.2 : List (Int × Int)))]))), (6, (.bool false)), (7, (.int .i64 (w64 (i_6 + 1))))] ⟨h1, h2, h3, h6, rfl⟩ ?_
    rintro s ⟨h1, h2, h3, h6, h7⟩
    refine .nlp ?_
    exact Hc1 (w64 (i_6 + 1)) _ ⟨h1, h2, h3, h6, h7⟩ h
def s_l2Near_l1 (F : Nat) (a_2 : Int) (b_3 : Int) (g_1 : (Int × (List (Int × Int))))  : Nat → Int → Option Bool
  | 0, _ => none
  | k + 1, i_6 =>
    bif decide (i_6 < (g_1.2.length : Int)) then
      (idx g_1.2 i_6).bind fun e_9 =>
      bif (e_9.1 == a_2) then
        bif (e_9.2 == b_3) then
          s_l2Near_j1 F a_2 b_3 g_1 i_6 (s_l2Near_l1 F a_2 b_3 g_1 k) true
        else
          bif (e_9.1 == b_3) then
            s_l2Near_j1 F a_2 b_3 g_1 i_6 (s_l2Near_l1 F a_2 b_3 g_1 k) (e_9.2 == a_2)
          else
            s_l2Near_j1 F a_2 b_3 g_1 i_6 (s_l2Near_l1 F a_2 b_3 g_1 k) false
      else
        bif (e_9.1 == b_3) then
          s_l2Near_j1 F a_2 b_3 g_1 i_6 (s_l2Near_l1 F a_2 b_3 g_1 k) (e_9.2 == a_2)
        else
          s_l2Near_j1 F a_2 b_3 g_1 i_6 (s_l2Near_l1 F a_2 b_3 g_1 k) false
    else
      some false
theorem t_f117_l1 (H : H117 D σ F) (a_2 : Int) (b_3 : Int) (g_1 : (Int × (List (Int × Int))))  : ∀ (k : Nat) (i_6 : Int) (s : Nat → V), Facts [(1, (.int .i64 a_2)), (2, (.int .i64 b_3)), (3, (.ref (.bx 3) 0 [] (.agg [(.int .i64 g_1.1), (Enc.enc (g_1.2 : List (Int × Int)))]))), (6, (.bool false)), (7, (.int .i64 i_6))] s → s_l2Near_l1 F a_2 b_3 g_1 k i_6 = some r → Run D σ (R117 r) (.run A117_1 [.lp A117_1, .bk 0, .sq A117_7]) s := by
  intro k
  induction k with
  | zero => intro i_6 s _ h; exact nomatch (h : (none : Option _) = some r)
  | succ k ih =>
    intro i_6 s hs h
    rw [s_l2Near_l1] at h
    obtain ⟨h1, h2, h3, h6, h7⟩ := hs
    refine .seq ?_
    refine .seq ?_
    refine run_reg ?_
    refine e_end ?_
    refine g_v1 (t := 7) (u := (.int .i64 i_6)) (.int .i64 i_6) h7 rfl rfl ?_
    refine g_v1 (t := 3) (u := (.ref (.bx 3) 0 [] (.agg [(.int .i64 g_1.1), (Enc.enc (g_1.2 : List (Int × Int)))]))) (.ref (.bx 3) 0 [1] (Enc.enc (g_1.2 : List (Int × Int)))) h3 rfl rfl ?_
    refine g_v1 (t := 10) (u := (.ref (.bx 3) 0 [1] (Enc.enc (g_1.2 : List (Int × Int))))) (Enc.enc (g_1.2 : List (Int × Int))) rfl rfl rfl ?_
    refine g_v (.int .i64 (g_1.2.length : Int)) (ev_len (xs := g_1.2) rfl) ?_
    refine g_v2 (t1 := 9) (t2 := 12) (u1 := (.int .i64 i_6)) (u2 := (.int .i64 (g_1.2.length : Int))) (.bool (decide (i_6 < (g_1.2.length : Int)))) rfl rfl rfl rfl ?_
    refine g_end ?_
    refine e_end ?_
    refine renew [(1, (.int .i64 a_2)), (2, (.int .i64 b_3)), (3, (.ref (.bx 3) 0 [] (.agg [(.int .i64 g_1.1), (Enc.enc (g_1.2 : List (Int × Int)))]))), (6, (.bool false)), (7, (.int .i64 i_6)), (13, (.bool (decide (i_6 < (g_1.2.length : Int)))))] ⟨h1, h2, h3, h6, h7, rfl⟩ ?_
    rintro s ⟨h1, h2, h3, h6, h7, h13⟩
    refine .nsq ?_
    refine run_cond (t := decide (i_6 < (g_1.2.length : Int))) h13 h (fun h => ?_) (fun h => ?_)
    · refine .skip ?_
      refine .nsq ?_
      refine .seq ?_
      refine .block ?_
      refine .seq ?_
      refine run_reg ?_
      refine e_clr ?_
      refine e_end ?_
      refine g_v1 (t := 3) (u := (.ref (.bx 3) 0 [] (.agg [(.int .i64 g_1.1), (Enc.enc (g_1.2 : List (Int × Int)))]))) (.ref (.bx 3) 0 [1] (Enc.enc (g_1.2 : List (Int × Int)))) (keep_clear (s := s) (pk := [8]) h3 rfl (map_bx rfl (map_agg (maps_cons rfl (maps_cons (Enc.map_enc _ (g_1.2 : List (Int × Int))) maps_nil))))) rfl rfl ?_
      refine g_v1 (t := 16) (u := (.ref (.bx 3) 0 [1] (Enc.enc (g_1.2 : List (Int × Int))))) (Enc.enc (g_1.2 : List (Int × Int))) rfl rfl rfl ?_
      refine g_v1 (t := 7) (u := (.int .i64 i_6)) (.int .i64 i_6) (keep_clear (s := s) (pk := [8]) h7 rfl rfl) rfl rfl ?_
      obtain ⟨e_9, E_e_9, h⟩ := bind_some h
      refine g_v (.ref .sh 0 [] (.agg [(.int .i64 e_9.1), (.int .i64 e_9.2)])) (ev_idx (t := .sh) (lo := 0) (xs := g_1.2) rfl rfl E_e_9 rfl rfl) ?_
      refine g_v1 (t := 19) (u := (.ref .sh 0 [] (.agg [(.int .i64 e_9.1), (.int .i64 e_9.2)]))) (.agg [(.int .i64 e_9.1), (.int .i64 e_9.2)]) rfl rfl rfl ?_
      refine g_alloc (gone_clear (s := s) (pk := [8]) (t := 8) rfl) ?_
      refine g_store (.agg [(.int .i64 e_9.1), (.int .i64 e_9.2)]) (rd_of rfl rfl) (rd_of rfl rfl) (by refine ⟨by decide, by decide, rfl, rfl, rfl, ?_⟩; first | rfl | simp [V.toks, V.tokss, Enc.toks_enc]) ?_
      refine g_end ?_
      refine e_end ?_
      refine renew [(1, (.int .i64 a_2)), (2, (.int .i64 b_3)), (3, (.ref (.bx 3) 0 [] (.agg [(.int .i64 g_1.1), (Enc.enc (g_1.2 : List (Int × Int)))]))), (6, (.bool false)), (7, (.int .i64 i_6)), (8, (.ref (.bx 8) 0 [] (.agg [(.int .i64 e_9.1), (.int .i64 e_9.2)])))] ⟨(keep_mut (keep_clear (s := s) (pk := [8]) h1 rfl rfl) rfl), (keep_mut (keep_clear (s := s) (pk := [8]) h2 rfl rfl) rfl), (keep_mut (keep_clear (s := s) (pk := [8]) h3 rfl (map_bx rfl (map_agg (maps_cons rfl (maps_cons (Enc.map_enc _ (g_1.2 : List (Int × Int))) maps_nil))))) (mut_ref_ne rfl rfl (mut_agg (muts_cons rfl (muts_cons (Enc.mut_enc _ _ _ _ (g_1.2 : List (Int × Int))) rfl))))), (keep_mut (keep_clear (s := s) (pk := [8]) h6 rfl rfl) rfl), (keep_mut (keep_clear (s := s) (pk := [8]) h7 rfl rfl) rfl), (keep_mut rfl rfl)⟩ ?_
      rintro s ⟨h1, h2, h3, h6, h7, h8⟩
      refine .nsq ?_
      refine .seq ?_
      refine run_reg ?_
      refine e_end ?_
      refine g_v1 (t := 8) (u := (.ref (.bx 8) 0 [] (.agg [(.int .i64 e_9.1), (.int .i64 e_9.2)]))) (.ref (.bx 8) 0 [0] (.int .i64 e_9.1)) h8 rfl rfl ?_
      refine g_v1 (t := 21) (u := (.ref (.bx 8) 0 [0] (.int .i64 e_9.1))) (.int .i64 e_9.1) rfl rfl rfl ?_
      refine g_v1 (t := 1) (u := (.int .i64 a_2)) (.int .i64 a_2) h1 rfl rfl ?_
      refine g_v2 (t1 := 22) (t2 := 23) (u1 := (.int .i64 e_9.1)) (u2 := (.int .i64 a_2)) (.bool (e_9.1 == a_2)) rfl rfl rfl rfl ?_
      refine g_v1 (t := 24) (u := (.bool (e_9.1 == a_2))) (.bool (e_9.1 == a_2)) rfl rfl rfl ?_
      refine split_on (c := (e_9.1 == a_2)) h (fun hg5 h => ?_) (fun hg5 h => ?_)
      · refine g_yes (Eq.trans (b := .bool (e_9.1 == a_2)) rfl (congrArg V.bool hg5)) (g_v1 (t := 8) (u := (.ref (.bx 8) 0 [] (.agg [(.int .i64 e_9.1), (.int .i64 e_9.2)]))) (.ref (.bx 8) 0 [1] (.int .i64 e_9.2)) h8 rfl rfl ?_)
        refine g_yes (Eq.trans (b := .bool (e_9.1 == a_2)) rfl (congrArg V.bool hg5)) (g_v1 (t := 26) (u := (.ref (.bx 8) 0 [1] (.int .i64 e_9.2))) (.int .i64 e_9.2) rfl rfl rfl ?_)
        refine g_yes (Eq.trans (b := .bool (e_9.1 == a_2)) rfl (congrArg V.bool hg5)) (g_v1 (t := 2) (u := (.int .i64 b_3)) (.int .i64 b_3) h2 rfl rfl ?_)
        refine g_yes (Eq.trans (b := .bool (e_9.1 == a_2)) rfl (congrArg V.bool hg5)) (g_v2 (t1 := 27) (t2 := 28) (u1 := (.int .i64 e_9.2)) (u2 := (.int .i64 b_3)) (.bool (e_9.2 == b_3)) rfl rfl rfl rfl ?_)
        refine g_v2 (t1 := 25) (t2 := 29) (u1 := (.bool true)) (u2 := (.bool (e_9.2 == b_3))) (.bool (e_9.2 == b_3)) (Eq.trans (b := .bool (e_9.1 == a_2)) rfl (congrArg V.bool hg5)) rfl rfl rfl ?_
        refine g_v1 (t := 30) (u := (.bool (e_9.2 == b_3))) (.bool (e_9.2 == b_3)) rfl rfl rfl ?_
        refine split_on (c := (e_9.2 == b_3)) h (fun hg11 h => ?_) (fun hg11 h => ?_)
        · refine g_no (Eq.trans (b := .bool (e_9.2 == b_3)) rfl (congrArg V.bool hg11)) ?_
          refine g_no (Eq.trans (b := .bool (e_9.2 == b_3)) rfl (congrArg V.bool hg11)) ?_
          refine g_no (Eq.trans (b := .bool (e_9.2 == b_3)) rfl (congrArg V.bool hg11)) ?_
          refine g_no (Eq.trans (b := .bool (e_9.2 == b_3)) rfl (congrArg V.bool hg11)) ?_
          refine g_no (Eq.trans (b := .bool (e_9.2 == b_3)) rfl (congrArg V.bool hg11)) ?_
          refine g_skip rfl ?_
          refine g_skip rfl ?_
          refine g_skip rfl ?_
          refine g_skip rfl ?_
          refine g_no (Eq.trans (b := .bool (e_9.2 == b_3)) rfl (congrArg V.bool hg11)) ?_
          refine g_v2 (t1 := 31) (t2 := 41) (u1 := (.bool true)) (u2 := (.tup [])) (.bool true) (Eq.trans (b := .bool (e_9.2 == b_3)) rfl (congrArg V.bool hg11)) rfl rfl rfl ?_
          refine g_end ?_
          refine e_end ?_
          refine renew [(1, (.int .i64 a_2)), (2, (.int .i64 b_3)), (3, (.ref (.bx 3) 0 [] (.agg [(.int .i64 g_1.1), (Enc.enc (g_1.2 : List (Int × Int)))]))), (6, (.bool false)), (7, (.int .i64 i_6)), (42, (.bool true))] ⟨h1, h2, h3, h6, h7, rfl⟩ ?_
          rintro s ⟨h1, h2, h3, h6, h7, h42⟩
          exact t_f117_j1 H a_2 b_3 g_1 i_6 (s_l2Near_l1 F a_2 b_3 g_1 k) ih true _ ⟨h1, h2, h3, h6, h7, h42⟩ h
        · refine g_yes (Eq.trans (b := .bool (e_9.2 == b_3)) rfl (congrArg V.bool hg11)) (g_v1 (t := 8) (u := (.ref (.bx 8) 0 [] (.agg [(.int .i64 e_9.1), (.int .i64 e_9.2)]))) (.ref (.bx 8) 0 [0] (.int .i64 e_9.1)) h8 rfl rfl ?_)
          refine g_yes (Eq.trans (b := .bool (e_9.2 == b_3)) rfl (congrArg V.bool hg11)) (g_v1 (t := 32) (u := (.ref (.bx 8) 0 [0] (.int .i64 e_9.1))) (.int .i64 e_9.1) rfl rfl rfl ?_)
          refine g_yes (Eq.trans (b := .bool (e_9.2 == b_3)) rfl (congrArg V.bool hg11)) (g_v1 (t := 2) (u := (.int .i64 b_3)) (.int .i64 b_3) h2 rfl rfl ?_)
          refine g_yes (Eq.trans (b := .bool (e_9.2 == b_3)) rfl (congrArg V.bool hg11)) (g_v2 (t1 := 33) (t2 := 34) (u1 := (.int .i64 e_9.1)) (u2 := (.int .i64 b_3)) (.bool (e_9.1 == b_3)) rfl rfl rfl rfl ?_)
          refine g_yes (Eq.trans (b := .bool (e_9.2 == b_3)) rfl (congrArg V.bool hg11)) (g_v1 (t := 35) (u := (.bool (e_9.1 == b_3))) (.bool (e_9.1 == b_3)) rfl rfl rfl ?_)
          refine split_on (c := (e_9.1 == b_3)) h (fun hg16 h => ?_) (fun hg16 h => ?_)
          · refine g_yes (Eq.trans (b := .bool (e_9.1 == b_3)) rfl (congrArg V.bool hg16)) (g_v1 (t := 8) (u := (.ref (.bx 8) 0 [] (.agg [(.int .i64 e_9.1), (.int .i64 e_9.2)]))) (.ref (.bx 8) 0 [1] (.int .i64 e_9.2)) h8 rfl rfl ?_)
            refine g_yes (Eq.trans (b := .bool (e_9.1 == b_3)) rfl (congrArg V.bool hg16)) (g_v1 (t := 37) (u := (.ref (.bx 8) 0 [1] (.int .i64 e_9.2))) (.int .i64 e_9.2) rfl rfl rfl ?_)
            refine g_yes (Eq.trans (b := .bool (e_9.1 == b_3)) rfl (congrArg V.bool hg16)) (g_v1 (t := 1) (u := (.int .i64 a_2)) (.int .i64 a_2) h1 rfl rfl ?_)
            refine g_yes (Eq.trans (b := .bool (e_9.1 == b_3)) rfl (congrArg V.bool hg16)) (g_v2 (t1 := 38) (t2 := 39) (u1 := (.int .i64 e_9.2)) (u2 := (.int .i64 a_2)) (.bool (e_9.2 == a_2)) rfl rfl rfl rfl ?_)
            refine g_yes (Eq.trans (b := .bool (e_9.2 == b_3)) rfl (congrArg V.bool hg11)) (g_v2 (t1 := 36) (t2 := 40) (u1 := (.bool true)) (u2 := (.bool (e_9.2 == a_2))) (.bool (e_9.2 == a_2)) (Eq.trans (b := .bool (e_9.1 == b_3)) rfl (congrArg V.bool hg16)) rfl rfl rfl ?_)
            refine g_v2 (t1 := 31) (t2 := 41) (u1 := (.bool false)) (u2 := (.bool (e_9.2 == a_2))) (.bool (e_9.2 == a_2)) (Eq.trans (b := .bool (e_9.2 == b_3)) rfl (congrArg V.bool hg11)) rfl rfl rfl ?_
            refine g_end ?_
            refine e_end ?_
            refine renew [(1, (.int .i64 a_2)), (2, (.int .i64 b_3)), (3, (.ref (.bx 3) 0 [] (.agg [(.int .i64 g_1.1), (Enc.enc (g_1.2 : List (Int × Int)))]))), (6, (.bool false)), (7, (.int .i64 i_6)), (42, (.bool (e_9.2 == a_2)))] ⟨h1, h2, h3, h6, h7, rfl⟩ ?_
            rintro s ⟨h1, h2, h3, h6, h7, h42⟩
            exact t_f117_j1 H a_2 b_3 g_1 i_6 (s_l2Near_l1 F a_2 b_3 g_1 k) ih (e_9.2 == a_2) _ ⟨h1, h2, h3, h6, h7, h42⟩ h
          · refine g_no (Eq.trans (b := .bool (e_9.1 == b_3)) rfl (congrArg V.bool hg16)) ?_
            refine g_no (Eq.trans (b := .bool (e_9.1 == b_3)) rfl (congrArg V.bool hg16)) ?_
            refine g_no (Eq.trans (b := .bool (e_9.1 == b_3)) rfl (congrArg V.bool hg16)) ?_
            refine g_no (Eq.trans (b := .bool (e_9.1 == b_3)) rfl (congrArg V.bool hg16)) ?_
            refine g_yes (Eq.trans (b := .bool (e_9.2 == b_3)) rfl (congrArg V.bool hg11)) (g_v2 (t1 := 36) (t2 := 40) (u1 := (.bool false)) (u2 := (.tup [])) (.bool false) (Eq.trans (b := .bool (e_9.1 == b_3)) rfl (congrArg V.bool hg16)) rfl rfl rfl ?_)
            refine g_v2 (t1 := 31) (t2 := 41) (u1 := (.bool false)) (u2 := (.bool false)) (.bool false) (Eq.trans (b := .bool (e_9.2 == b_3)) rfl (congrArg V.bool hg11)) rfl rfl rfl ?_
            refine g_end ?_
            refine e_end ?_
            refine renew [(1, (.int .i64 a_2)), (2, (.int .i64 b_3)), (3, (.ref (.bx 3) 0 [] (.agg [(.int .i64 g_1.1), (Enc.enc (g_1.2 : List (Int × Int)))]))), (6, (.bool false)), (7, (.int .i64 i_6)), (42, (.bool false))] ⟨h1, h2, h3, h6, h7, rfl⟩ ?_
            rintro s ⟨h1, h2, h3, h6, h7, h42⟩
            exact t_f117_j1 H a_2 b_3 g_1 i_6 (s_l2Near_l1 F a_2 b_3 g_1 k) ih false _ ⟨h1, h2, h3, h6, h7, h42⟩ h
      · refine g_no (Eq.trans (b := .bool (e_9.1 == a_2)) rfl (congrArg V.bool hg5)) ?_
        refine g_no (Eq.trans (b := .bool (e_9.1 == a_2)) rfl (congrArg V.bool hg5)) ?_
        refine g_no (Eq.trans (b := .bool (e_9.1 == a_2)) rfl (congrArg V.bool hg5)) ?_
        refine g_no (Eq.trans (b := .bool (e_9.1 == a_2)) rfl (congrArg V.bool hg5)) ?_
        refine g_v2 (t1 := 25) (t2 := 29) (u1 := (.bool false)) (u2 := (.tup [])) (.bool false) (Eq.trans (b := .bool (e_9.1 == a_2)) rfl (congrArg V.bool hg5)) rfl rfl rfl ?_
        refine g_v1 (t := 30) (u := (.bool false)) (.bool false) rfl rfl rfl ?_
        refine g_yes rfl (g_v1 (t := 8) (u := (.ref (.bx 8) 0 [] (.agg [(.int .i64 e_9.1), (.int .i64 e_9.2)]))) (.ref (.bx 8) 0 [0] (.int .i64 e_9.1)) h8 rfl rfl ?_)
        refine g_yes rfl (g_v1 (t := 32) (u := (.ref (.bx 8) 0 [0] (.int .i64 e_9.1))) (.int .i64 e_9.1) rfl rfl rfl ?_)
        refine g_yes rfl (g_v1 (t := 2) (u := (.int .i64 b_3)) (.int .i64 b_3) h2 rfl rfl ?_)
        refine g_yes rfl (g_v2 (t1 := 33) (t2 := 34) (u1 := (.int .i64 e_9.1)) (u2 := (.int .i64 b_3)) (.bool (e_9.1 == b_3)) rfl rfl rfl rfl ?_)
        refine g_yes rfl (g_v1 (t := 35) (u := (.bool (e_9.1 == b_3))) (.bool (e_9.1 == b_3)) rfl rfl rfl ?_)
        refine split_on (c := (e_9.1 == b_3)) h (fun hg16 h => ?_) (fun hg16 h => ?_)
        · refine g_yes (Eq.trans (b := .bool (e_9.1 == b_3)) rfl (congrArg V.bool hg16)) (g_v1 (t := 8) (u := (.ref (.bx 8) 0 [] (.agg [(.int .i64 e_9.1), (.int .i64 e_9.2)]))) (.ref (.bx 8) 0 [1] (.int .i64 e_9.2)) h8 rfl rfl ?_)
          refine g_yes (Eq.trans (b := .bool (e_9.1 == b_3)) rfl (congrArg V.bool hg16)) (g_v1 (t := 37) (u := (.ref (.bx 8) 0 [1] (.int .i64 e_9.2))) (.int .i64 e_9.2) rfl rfl rfl ?_)
          refine g_yes (Eq.trans (b := .bool (e_9.1 == b_3)) rfl (congrArg V.bool hg16)) (g_v1 (t := 1) (u := (.int .i64 a_2)) (.int .i64 a_2) h1 rfl rfl ?_)
          refine g_yes (Eq.trans (b := .bool (e_9.1 == b_3)) rfl (congrArg V.bool hg16)) (g_v2 (t1 := 38) (t2 := 39) (u1 := (.int .i64 e_9.2)) (u2 := (.int .i64 a_2)) (.bool (e_9.2 == a_2)) rfl rfl rfl rfl ?_)
          refine g_yes rfl (g_v2 (t1 := 36) (t2 := 40) (u1 := (.bool true)) (u2 := (.bool (e_9.2 == a_2))) (.bool (e_9.2 == a_2)) (Eq.trans (b := .bool (e_9.1 == b_3)) rfl (congrArg V.bool hg16)) rfl rfl rfl ?_)
          refine g_v2 (t1 := 31) (t2 := 41) (u1 := (.bool false)) (u2 := (.bool (e_9.2 == a_2))) (.bool (e_9.2 == a_2)) rfl rfl rfl rfl ?_
          refine g_end ?_
          refine e_end ?_
          refine renew [(1, (.int .i64 a_2)), (2, (.int .i64 b_3)), (3, (.ref (.bx 3) 0 [] (.agg [(.int .i64 g_1.1), (Enc.enc (g_1.2 : List (Int × Int)))]))), (6, (.bool false)), (7, (.int .i64 i_6)), (42, (.bool (e_9.2 == a_2)))] ⟨h1, h2, h3, h6, h7, rfl⟩ ?_
          rintro s ⟨h1, h2, h3, h6, h7, h42⟩
          exact t_f117_j1 H a_2 b_3 g_1 i_6 (s_l2Near_l1 F a_2 b_3 g_1 k) ih (e_9.2 == a_2) _ ⟨h1, h2, h3, h6, h7, h42⟩ h
        · refine g_no (Eq.trans (b := .bool (e_9.1 == b_3)) rfl (congrArg V.bool hg16)) ?_
          refine g_no (Eq.trans (b := .bool (e_9.1 == b_3)) rfl (congrArg V.bool hg16)) ?_
          refine g_no (Eq.trans (b := .bool (e_9.1 == b_3)) rfl (congrArg V.bool hg16)) ?_
          refine g_no (Eq.trans (b := .bool (e_9.1 == b_3)) rfl (congrArg V.bool hg16)) ?_
          refine g_yes rfl (g_v2 (t1 := 36) (t2 := 40) (u1 := (.bool false)) (u2 := (.tup [])) (.bool false) (Eq.trans (b := .bool (e_9.1 == b_3)) rfl (congrArg V.bool hg16)) rfl rfl rfl ?_)
          refine g_v2 (t1 := 31) (t2 := 41) (u1 := (.bool false)) (u2 := (.bool false)) (.bool false) rfl rfl rfl rfl ?_
          refine g_end ?_
          refine e_end ?_
          refine renew [(1, (.int .i64 a_2)), (2, (.int .i64 b_3)), (3, (.ref (.bx 3) 0 [] (.agg [(.int .i64 g_1.1), (Enc.enc (g_1.2 : List (Int × Int)))]))), (6, (.bool false)), (7, (.int .i64 i_6)), (42, (.bool false))] ⟨h1, h2, h3, h6, h7, rfl⟩ ?_
          rintro s ⟨h1, h2, h3, h6, h7, h42⟩
          exact t_f117_j1 H a_2 b_3 g_1 i_6 (s_l2Near_l1 F a_2 b_3 g_1 k) ih false _ ⟨h1, h2, h3, h6, h7, h42⟩ h
    · refine .exit ?_
      refine .esq ?_
      refine .elp ?_
      refine .ebk ?_
      refine .nsq ?_
      refine .seq ?_
      refine run_reg ?_
      refine e_end ?_
      refine g_v0 (.bool false) rfl rfl ?_
      refine g_end ?_
      refine e_end ?_
      refine renew [(6, (.bool false))] rfl ?_
      rintro s h6
      refine .nsq ?_
      refine .ret ?_
      have hr := Option.some.inj h
      subst hr
      exact rrA (res_tmp h6) rfl
def s_l2Near (F : Nat) (g_1 : (Int × (List (Int × Int)))) (a_2 : Int) (b_3 : Int) : Option Bool :=
  s_l2Near_l1 F a_2 b_3 g_1 F 0
theorem t117 (H : H117 D σ F) (g_1 : (Int × (List (Int × Int)))) (a_2 : Int) (b_3 : Int) (s : Nat → V) (hs : Facts [(0, (.agg [(.int .i64 g_1.1), (Enc.enc (g_1.2 : List (Int × Int)))])), (1, (.int .i64 a_2)), (2, (.int .i64 b_3))] s) (h : s_l2Near F g_1 a_2 b_3 = some r) : Run D σ (R117 r) (.run A117 []) s := by
  unfold s_l2Near at h
  obtain ⟨h0, h1, h2⟩ := hs
  refine .seq ?_
  refine run_reg ?_
  refine e_clr ?_
  refine e_end ?_
  refine g_box (.agg [(.int .i64 g_1.1), (Enc.enc (g_1.2 : List (Int × Int)))]) (rd_of (keep_clear (s := s) (pk := [3]) h0 rfl (map_agg (maps_cons rfl (maps_cons (Enc.map_enc _ (g_1.2 : List (Int × Int))) maps_nil)))) rfl) (gone_clear (s := s) (pk := [3]) (t := 3) rfl) rfl ?_
  refine g_v0 (.bool false) rfl rfl ?_
  refine g_end ?_
  refine e_end ?_
  refine renew [(1, (.int .i64 a_2)), (2, (.int .i64 b_3)), (3, (.ref (.bx 3) 0 [] (.agg [(.int .i64 g_1.1), (Enc.enc (g_1.2 : List (Int × Int)))]))), (6, (.bool false))] ⟨(keep_clear (s := s) (pk := [3]) h1 rfl rfl), (keep_clear (s := s) (pk := [3]) h2 rfl rfl), rfl, rfl⟩ ?_
  rintro s ⟨h1, h2, h3, h6⟩
  refine .nsq ?_
  refine .seq ?_
  refine .seq ?_
  refine run_reg ?_
  refine e_end ?_
  refine g_v0 (.int .i64 0) rfl rfl ?_
  refine g_end ?_
  refine e_end ?_
  refine renew [(1, (.int .i64 a_2)), (2, (.int .i64 b_3)), (3, (.ref (.bx 3) 0 [] (.agg [(.int .i64 g_1.1), (Enc.enc (g_1.2 : List (Int × Int)))]))), (6, (.bool false)), (7, (.int .i64 0))] ⟨h1, h2, h3, h6, rfl⟩ ?_
  rintro s ⟨h1, h2, h3, h6, h7⟩
  refine .nsq ?_
  refine .block ?_
  refine .loop ?_
  exact t_f117_l1 H a_2 b_3 g_1 F 0 _ ⟨h1, h2, h3, h6, h7⟩ h
end
def e117 (F : Nat) : Ent := ⟨117, da (fun (x : ((Int × (List (Int × Int))) × Int × Int × Unit)) => s_l2Near F x.1 x.2.1 x.2.2.1) (fun (r : Bool) => (Enc.enc (r : Bool))), 0, false, selF []⟩
theorem p117 {F : Nat} {x0 : (Int × (List (Int × Int)))} {x1 : Int} {x2 : Int} {r : Bool} (h : s_l2Near F x0 x1 x2 = some r) : (e117 F).den [Enc.enc x0, Enc.enc x1, Enc.enc x2] = some (Enc.enc (r : Bool)) := da_put (f := fun (x : ((Int × (List (Int × Int))) × Int × Int × Unit)) => s_l2Near F x.1 x.2.1 x.2.2.1) (t := fun (r : Bool) => (Enc.enc (r : Bool))) (x0, x1, x2, ()) h
theorem o117 {D : Den} {σ : Sig} {F : Nat} (hF : Fits2 Try.prog D σ) (H : H117 D σ F) : (e117 F).Ok Try.prog := by
  refine ok_of (f := 117) (show unk 117 = 117 from rfl) (fun args r h => ?_) ⟨Try.f117, Try.func117, rfl, rfl⟩
  obtain ⟨⟨x0, x1, x2, _⟩, y, rfl, hy, rfl⟩ := da_open h
  exact contract_run hF (by kernel_rfl) Try.func117 rfl c117 (show 3 ≤ Try.f117.ntmps by decide) (t117 H x0 x1 x2 _ ⟨rfl, rfl, rfl⟩ hy)
/- loop.example/g01109/spec.l2Neighbors -/
def A85_2 : AC := (AC.cond (O.t 11) AC.skip (AC.exit 0))
def A85_4 : AC := (AC.cond (O.t 17) (AC.reg [.clr [20, 21]] [(I.mk (some 18) none false (X.v (A.mov (O.t 5)))), (I.mk (some 19) none false (X.v (A.mov (O.t 6)))), (I.mk (some 20) none false (X.lit (V.int IntKind.i64 (Int.ofNat 0)) 1 [(0, 0, (O.t 19))])), (I.mk (some 21) none false (X.app Sh.s (O.t 18) (O.t 20))), (I.mk (some 5) none false (X.v (A.mov (O.t 21))))] [.home 21 5]) AC.skip)
def A85_5 : AC := (AC.reg [] [(I.mk (some 12) none false (X.v (A.mov (O.t 6)))), (I.mk (some 13) none false (X.v (A.bin BinOp.add (O.t 12) (O.k (V.int IntKind.i64 (Int.ofNat 1)))))), (I.mk (some 6) none false (X.v (A.mov (O.t 13))))] [])
def A85_3 : AC := (AC.seq (AC.block 1 (AC.seq (AC.reg [] [(I.mk (some 14) none false (X.v (A.load (Sh.ag [Sh.s, Sh.p]) (O.t 2)))), (I.mk (some 15) none false (X.v (A.mov (O.t 1)))), (I.mk (some 16) none false (X.v (A.mov (O.t 6)))), (I.mk (some 17) none false (X.call (O.k (V.fn 117 [] [])) [(O.t 14), (O.t 15), (O.t 16)]))] []) A85_4)) A85_5)
def A85_1 : AC := (AC.seq (AC.seq (AC.reg [] [(I.mk (some 8) none false (X.v (A.mov (O.t 6)))), (I.mk (some 9) none false (X.v (A.fld (O.t 2) 0 0))), (I.mk (some 10) none false (X.v (A.load Sh.s (O.t 9)))), (I.mk (some 11) none false (X.v (A.bin BinOp.lss (O.t 8) (O.t 10))))] []) A85_2) A85_3)
def A85_6 : AC := (AC.seq (AC.reg [] [(I.mk (some 22) none false (X.v (A.mov (O.t 5)))), (I.mk (some 4) none false (X.v (A.mov (O.t 22))))] [.home 5 4]) AC.ret)
def A85_9 : AC := (AC.block 0 (AC.loop A85_1))
def A85_8 : AC := (AC.seq (AC.seq (AC.reg [] [(I.mk (some 6) none false (X.v (A.mov (O.k (V.int IntKind.i64 (Int.ofNat 0))))))] []) A85_9) A85_6)
def A85_7 : AC := (AC.seq (AC.reg [.clr [7]] [(I.mk (some 7) none false (X.lit (V.int IntKind.i64 (Int.ofNat 0)) 0 [])), (I.mk (some 5) none false (X.v (A.mov (O.t 7))))] [.home 7 5]) A85_8)
def A85 : AC := (AC.seq (AC.reg [.clr [2]] [(I.mk (some 2) none false (X.box (O.t 0))), (I.mk (some 4) none false (X.v (A.mov (O.k (V.sl Tok.nl Sh.s 0 [])))))] []) A85_7)
def an85 : List An := [{ id := 0, pre := [.clr [2]], ep := [], lin := [], sp := [] }, { id := 1, pre := [.clr [7]], ep := [.home 7 5], lin := [], sp := [] }, { id := 6, pre := [.clr [20, 21]], ep := [.home 21 5], lin := [], sp := [] }, { id := 7, pre := [], ep := [.home 5 4], lin := [], sp := [] }]
theorem c85 : cC Try.prog Try.f85.ntmps an85 (Try.f85.body.getD .skip) = some A85 := by kernel_rfl
structure H85 (D : Den) (σ : Sig) (F : Nat) : Prop where
  c117 : ∀ (x0 : (Int × (List (Int × Int)))) (x1 : Int) (x2 : Int) r, s_l2Near F x0 x1 x2 = some r → D 117 [Enc.enc x0, Enc.enc x1, Enc.enc x2] = some (Enc.enc (r : Bool))
  g117 : σ 117 = some (0, false)
abbrev R85 (r : (List Int)) : (Nat → V) → Prop := RR Try.prog [.tmp 4] 0 false (Enc.enc (r : (List Int)))
section
variable {D : Den} {σ : Sig} {F : Nat} {r : (List Int)}
def s_l2Neighbors_j1 (F : Nat) (x_2 : Int) (g_1 : (Int × (List (Int × Int)))) (y_8 : Int) (c1 : (List Int) → Int → Option (List Int)) (out_15 : (List Int)) : Option (List Int) :=
  c1 out_15 (w64 (y_8 + 1))
theorem t_f85_j1 (H : H85 D σ F) (x_2 : Int) (g_1 : (Int × (List (Int × Int)))) (y_8 : Int) (c1 : (List Int) → Int → Option (List Int)) (Hc1 : ∀ (out_7 : (List Int)) (y_8 : Int) (s : Nat → V), Facts [(1, (.int .i64 x_2)), (2, (.ref (.bx 2) 0 [] (.agg [(.int .i64 g_1.1), (Enc.enc (g_1.2 : List (Int × Int)))]))), (4, (.sl .nl (Enc.shp Int) 0 [])), (5, (encO (.at 5 []) (.of (out_7 : List Int)))), (6, (.int .i64 y_8))] s → c1 out_7 y_8 = some r → Run D σ (R85 r) (.run A85_1 [.lp A85_1, .bk 0, .sq A85_6]) s) (out_15 : (List Int)) (s : Nat → V) (hs : Facts [(1, (.int .i64 x_2)), (2, (.ref (.bx 2) 0 [] (.agg [(.int .i64 g_1.1), (Enc.enc (g_1.2 : List (Int × Int)))]))), (4, (.sl .nl (Enc.shp Int) 0 [])), (5, (encO (.at 5 []) (.of (out_15 : List Int)))), (6, (.int .i64 y_8))] s) (h : s_l2Neighbors_j1 F x_2 g_1 y_8 c1 out_15 = some r) : Run D σ (R85 r) (.nrm [.bk 1, .sq A85_5, .lp A85_1, .bk 0, .sq A85_6]) s := by
  unfold s_l2Neighbors_j1 at h
  obtain ⟨h1, h2, h4, h5, h6⟩ := hs
  refine .nbk ?_
  refine .nsq ?_
  refine run_reg ?_
  refine e_end ?_
  refine g_v1 (t := 6) (u := (.int .i64 y_8)) (.int .i64 y_8) h6 rfl rfl ?_
  refine g_v1 (t := 12) (u := (.int .i64 y_8)) (.int .i64 (w64 (y_8 + 1))) rfl rfl rfl ?_
  refine g_v1 (t := 13) (u := (.int .i64 (w64 (y_8 + 1)))) (.int .i64 (w64 (y_8 + 1))) rfl rfl rfl ?_
  refine g_end ?_
  refine e_end ?_
  refine renew [(1, (.int .i64 x_2)), (2, (.ref (.bx 2) 0 [] (.agg [(.int .i64 g_1.1), (Enc.enc (g_1.2 : List (Int × Int)))]))), (4, (.sl .nl (Enc.shp Int) 0 [])), (5, (encO (.at 5 []) (.of (out_15 : List Int)))), (6, (.int .i64 (w64 (y_8 + 1))))] ⟨h1, h2, h4, h5, rfl⟩ ?_
  rintro s ⟨h1, h2, h4, h5, h6⟩
  refine .nlp ?_
  exact Hc1 out_15 (w64 (y_8 + 1)) _ ⟨h1, h2, h4, h5, h6⟩ h
def s_l2Neighbors_l1 (F : Nat) (x_2 : Int) (g_1 : (Int × (List (Int × Int))))  : Nat → (List Int) → Int → Option (List Int)
  | 0, _, _ => none
  | k + 1, out_7, y_8 =>
    bif decide (y_8 < g_1.1) then
      (s_l2Near F g_1 x_2 y_8).bind fun r_13 =>
      bif r_13 then
        (appL out_7 [y_8]).bind fun ap_16 =>
        s_l2Neighbors_j1 F x_2 g_1 y_8 (s_l2Neighbors_l1 F x_2 g_1 k) ap_16
      else
        s_l2Neighbors_j1 F x_2 g_1 y_8 (s_l2Neighbors_l1 F x_2 g_1 k) out_7
    else
      some out_7
theorem t_f85_l1 (H : H85 D σ F) (x_2 : Int) (g_1 : (Int × (List (Int × Int))))  : ∀ (k : Nat) (out_7 : (List Int)) (y_8 : Int) (s : Nat → V), Facts [(1, (.int .i64 x_2)), (2, (.ref (.bx 2) 0 [] (.agg [(.int .i64 g_1.1), (Enc.enc (g_1.2 : List (Int × Int)))]))), (4, (.sl .nl (Enc.shp Int) 0 [])), (5, (encO (.at 5 []) (.of (out_7 : List Int)))), (6, (.int .i64 y_8))] s → s_l2Neighbors_l1 F x_2 g_1 k out_7 y_8 = some r → Run D σ (R85 r) (.run A85_1 [.lp A85_1, .bk 0, .sq A85_6]) s := by
  intro k
  induction k with
  | zero => intro out_7 y_8 s _ h; exact nomatch (h : (none : Option _) = some r)
  | succ k ih =>
    intro out_7 y_8 s hs h
    rw [s_l2Neighbors_l1] at h
    obtain ⟨h1, h2, h4, h5, h6⟩ := hs
    refine .seq ?_
    refine .seq ?_
    refine run_reg ?_
    refine e_end ?_
    refine g_v1 (t := 6) (u := (.int .i64 y_8)) (.int .i64 y_8) h6 rfl rfl ?_
    refine g_v1 (t := 2) (u := (.ref (.bx 2) 0 [] (.agg [(.int .i64 g_1.1), (Enc.enc (g_1.2 : List (Int × Int)))]))) (.ref (.bx 2) 0 [0] (.int .i64 g_1.1)) h2 rfl rfl ?_
    refine g_v1 (t := 9) (u := (.ref (.bx 2) 0 [0] (.int .i64 g_1.1))) (.int .i64 g_1.1) rfl rfl rfl ?_
    refine g_v2 (t1 := 8) (t2 := 10) (u1 := (.int .i64 y_8)) (u2 := (.int .i64 g_1.1)) (.bool (decide (y_8 < g_1.1))) rfl rfl rfl rfl ?_
    refine g_end ?_
    refine e_end ?_
    refine renew [(1, (.int .i64 x_2)), (2, (.ref (.bx 2) 0 [] (.agg [(.int .i64 g_1.1), (Enc.enc (g_1.2 : List (Int × Int)))]))), (4, (.sl .nl (Enc.shp Int) 0 [])), (5, (encO (.at 5 []) (.of (out_7 : List Int)))), (6, (.int .i64 y_8)), (11, (.bool (decide (y_8 < g_1.1))))] ⟨h1, h2, h4, h5, h6, rfl⟩ ?_
    rintro s ⟨h1, h2, h4, h5, h6, h11⟩
    refine .nsq ?_
    refine run_cond (t := decide (y_8 < g_1.1)) h11 h (fun h => ?_) (fun h => ?_)
    · refine .skip ?_
      refine .nsq ?_
      refine .seq ?_
      refine .block ?_
      refine .seq ?_
      refine run_reg ?_
      refine e_end ?_
      refine g_v1 (t := 2) (u := (.ref (.bx 2) 0 [] (.agg [(.int .i64 g_1.1), (Enc.enc (g_1.2 : List (Int × Int)))]))) (.agg [(.int .i64 g_1.1), (Enc.enc (g_1.2 : List (Int × Int)))]) h2 rfl rfl ?_
      refine g_v1 (t := 1) (u := (.int .i64 x_2)) (.int .i64 x_2) h1 rfl rfl ?_
      refine g_v1 (t := 6) (u := (.int .i64 y_8)) (.int .i64 y_8) h6 rfl rfl ?_
      obtain ⟨r_13, E_r_13, h⟩ := bind_some h
      refine g_call (m := 0) (al := false) (r := (Enc.enc (r_13 : Bool))) [Enc.enc (g_1 : (Int × (List (Int × Int)))), Enc.enc (x_2 : Int), Enc.enc (y_8 : Int)] (ta_cons (v := (.agg [(.int .i64 g_1.1), (Enc.enc (g_1.2 : List (Int × Int)))])) rfl rfl (Enc.erase_enc (g_1 : (Int × (List (Int × Int))))) (ta_cons (v := (.int .i64 x_2)) rfl rfl rfl (ta_cons (v := (.int .i64 y_8)) rfl rfl rfl ta_nil))) (H.c117 _ _ _ _ E_r_13) H.g117 rfl rfl rfl rfl ?_
      refine g_end ?_
      refine e_end ?_
      refine renew [(1, (.int .i64 x_2)), (2, (.ref (.bx 2) 0 [] (.agg [(.int .i64 g_1.1), (Enc.enc (g_1.2 : List (Int × Int)))]))), (4, (.sl .nl (Enc.shp Int) 0 [])), (5, (encO (.at 5 []) (.of (out_7 : List Int)))), (6, (.int .i64 y_8)), (17, (.bool r_13))] ⟨h1, h2, h4, h5, h6, rfl⟩ ?_
      rintro s ⟨h1, h2, h4, h5, h6, h17⟩
      refine .nsq ?_
      refine run_cond (t := r_13) h17 h (fun h => ?_) (fun h => ?_)
      · refine run_reg ?_
        refine e_clr ?_
        refine e_end ?_
        refine g_v1 (t := 5) (u := (encO (.at 5 []) (.of (out_7 : List Int)))) (encO (.at 5 []) (.of (out_7 : List Int))) (keep_clear (s := s) (pk := [20, 21]) h5 rfl (map_encO (r := 5) (p := []) rfl rfl)) rfl rfl ?_
        refine g_v1 (t := 6) (u := (.int .i64 y_8)) (.int .i64 y_8) (keep_clear (s := s) (pk := [20, 21]) h6 rfl rfl) rfl rfl ?_
        refine g_litL [(19, (.int .i64 y_8))] [Enc.enc (y_8 : Int)] rfl rfl rfl (gone_clear (s := s) (pk := [20, 21]) (t := 20) rfl) ?_
        obtain ⟨ap_16, E_ap_16, h⟩ := bind_some h
        refine g_app (q := 5) (p := []) (o := (.of (out_7 : List Int))) (ys := ([y_8] : List Int)) (t2 := (.at 20 [])) (lo2 := 0) rfl rfl rfl (gone_clear (s := s) (pk := [20, 21]) (t := 21) rfl) (appN_L (o := (.of (out_7 : List Int))) E_ap_16 trivial) (fun s_20 ha_20 => ?_)
        refine g_v1 (t := 21) (u := (encO (.at 21 []) (.of (ap_16 : List Int)))) (encO (.at 21 []) (.of (ap_16 : List Int))) rfl rfl rfl ?_
        refine g_end ?_
        refine e_home (r := 21) (x := 5) (v := (encO (.at 21 []) (.of (ap_16 : List Int)))) (by exact rfl) rfl (fun s_21 hg_21 => ?_)
        refine e_end ?_
        refine renew [(1, (.int .i64 x_2)), (2, (.ref (.bx 2) 0 [] (.agg [(.int .i64 g_1.1), (Enc.enc (g_1.2 : List (Int × Int)))]))), (4, (.sl .nl (Enc.shp Int) 0 [])), (5, (encO (.at 5 []) (.of (ap_16 : List Int)))), (6, (.int .i64 y_8))] ⟨(hg_21 1 (.int .i64 x_2) (.int .i64 x_2) (show s_20 1 = (.int .i64 x_2) from keep_app ha_20 (keep_clear (s := s) (pk := [20, 21]) h1 rfl rfl) rfl) rfl), (hg_21 2 (.ref (.bx 2) 0 [] (.agg [(.int .i64 g_1.1), (Enc.enc (g_1.2 : List (Int × Int)))])) (.ref (.bx 2) 0 [] (.agg [(.int .i64 g_1.1), (Enc.enc (g_1.2 : List (Int × Int)))])) (show s_20 2 = (.ref (.bx 2) 0 [] (.agg [(.int .i64 g_1.1), (Enc.enc (g_1.2 : List (Int × Int)))])) from keep_app ha_20 (keep_clear (s := s) (pk := [20, 21]) h2 rfl (map_bx rfl (map_agg (maps_cons rfl (maps_cons (Enc.map_enc _ (g_1.2 : List (Int × Int))) maps_nil))))) (map_bx rfl (map_agg (maps_cons rfl (maps_cons (Enc.map_enc _ (g_1.2 : List (Int × Int))) maps_nil))))) (map_bx rfl (map_agg (maps_cons rfl (maps_cons (Enc.map_enc _ (g_1.2 : List (Int × Int))) maps_nil))))), (hg_21 4 (.sl .nl (Enc.shp Int) 0 []) (.sl .nl (Enc.shp Int) 0 []) (show s_20 4 = (.sl .nl (Enc.shp Int) 0 []) from keep_app ha_20 (keep_clear (s := s) (pk := [20, 21]) h4 rfl rfl) rfl) rfl), (hg_21 5 (encO (.at 21 []) (.of (ap_16 : List Int))) (encO (.at 5 []) (.of (ap_16 : List Int))) rfl (map_encO (r := 21) (p := []) rfl rfl)), (hg_21 6 (.int .i64 y_8) (.int .i64 y_8) (show s_20 6 = (.int .i64 y_8) from keep_app ha_20 (keep_clear (s := s) (pk := [20, 21]) h6 rfl rfl) rfl) rfl)⟩ ?_
        rintro s ⟨h1, h2, h4, h5, h6⟩
        exact t_f85_j1 H x_2 g_1 y_8 (s_l2Neighbors_l1 F x_2 g_1 k) ih ap_16 _ ⟨h1, h2, h4, h5, h6⟩ h
      · refine .skip ?_
        exact t_f85_j1 H x_2 g_1 y_8 (s_l2Neighbors_l1 F x_2 g_1 k) ih out_7 _ ⟨h1, h2, h4, h5, h6⟩ h
    · refine .exit ?_
      refine .esq ?_
      refine .elp ?_
      refine .ebk ?_
      refine .nsq ?_
      refine .seq ?_
      refine run_reg ?_
      refine e_end ?_
      refine g_v1 (t := 5) (u := (encO (.at 5 []) (.of (out_7 : List Int)))) (encO (.at 5 []) (.of (out_7 : List Int))) h5 rfl rfl ?_
      refine g_v1 (t := 22) (u := (encO (.at 5 []) (.of (out_7 : List Int)))) (encO (.at 5 []) (.of (out_7 : List Int))) rfl rfl rfl ?_
      refine g_end ?_
      refine e_home (r := 5) (x := 4) (v := (encO (.at 5 []) (.of (out_7 : List Int)))) (by exact rfl) rfl (fun s_22 hg_22 => ?_)
      refine e_end ?_
      refine renew [(4, (encO (.at 4 []) (.of (out_7 : List Int))))] (hg_22 4 (encO (.at 5 []) (.of (out_7 : List Int))) (encO (.at 4 []) (.of (out_7 : List Int))) rfl (map_encO (r := 5) (p := []) rfl rfl)) ?_
      rintro s h4
      refine .nsq ?_
      refine .ret ?_
      have hr := Option.some.inj h
      subst hr
      exact rrA (res_tmp h4) (fin_retF (fin_own (o := .of out_7)) (mine_own rfl))
def s_l2Neighbors (F : Nat) (g_1 : (Int × (List (Int × Int)))) (x_2 : Int) : Option (List Int) :=
  s_l2Neighbors_l1 F x_2 g_1 F [] 0
theorem t85 (H : H85 D σ F) (g_1 : (Int × (List (Int × Int)))) (x_2 : Int) (s : Nat → V) (hs : Facts [(0, (.agg [(.int .i64 g_1.1), (Enc.enc (g_1.2 : List (Int × Int)))])), (1, (.int .i64 x_2))] s) (h : s_l2Neighbors F g_1 x_2 = some r) : Run D σ (R85 r) (.run A85 []) s := by
  unfold s_l2Neighbors at h
  obtain ⟨h0, h1⟩ := hs
  refine .seq ?_
  refine run_reg ?_
  refine e_clr ?_
  refine e_end ?_
  refine g_box (.agg [(.int .i64 g_1.1), (Enc.enc (g_1.2 : List (Int × Int)))]) (rd_of (keep_clear (s := s) (pk := [2]) h0 rfl (map_agg (maps_cons rfl (maps_cons (Enc.map_enc _ (g_1.2 : List (Int × Int))) maps_nil)))) rfl) (gone_clear (s := s) (pk := [2]) (t := 2) rfl) rfl ?_
  refine g_v0 (.sl .nl (Enc.shp Int) 0 []) rfl rfl ?_
  refine g_end ?_
  refine e_end ?_
  refine renew [(1, (.int .i64 x_2)), (2, (.ref (.bx 2) 0 [] (.agg [(.int .i64 g_1.1), (Enc.enc (g_1.2 : List (Int × Int)))]))), (4, (.sl .nl (Enc.shp Int) 0 []))] ⟨(keep_clear (s := s) (pk := [2]) h1 rfl rfl), rfl, rfl⟩ ?_
  rintro s ⟨h1, h2, h4⟩
  refine .nsq ?_
  refine .seq ?_
  refine run_reg ?_
  refine e_clr ?_
  refine e_end ?_
  refine g_litL [] [] trivial rfl rfl (gone_clear (s := s) (pk := [7]) (t := 7) rfl) ?_
  refine g_v1 (t := 7) (u := (encO (.at 7 []) (.of ([] : List Int)))) (encO (.at 7 []) (.of ([] : List Int))) rfl rfl rfl ?_
  refine g_end ?_
  refine e_home (r := 7) (x := 5) (v := (encO (.at 7 []) (.of ([] : List Int)))) (by exact rfl) rfl (fun s_3 hg_3 => ?_)
  refine e_end ?_
  refine renew [(1, (.int .i64 x_2)), (2, (.ref (.bx 2) 0 [] (.agg [(.int .i64 g_1.1), (Enc.enc (g_1.2 : List (Int × Int)))]))), (4, (.sl .nl (Enc.shp Int) 0 [])), (5, (encO (.at 5 []) (.of ([] : List Int))))] ⟨(hg_3 1 (.int .i64 x_2) (.int .i64 x_2) (keep_clear (s := s) (pk := [7]) h1 rfl rfl) rfl), (hg_3 2 (.ref (.bx 2) 0 [] (.agg [(.int .i64 g_1.1), (Enc.enc (g_1.2 : List (Int × Int)))])) (.ref (.bx 2) 0 [] (.agg [(.int .i64 g_1.1), (Enc.enc (g_1.2 : List (Int × Int)))])) (keep_clear (s := s) (pk := [7]) h2 rfl (map_bx rfl (map_agg (maps_cons rfl (maps_cons (Enc.map_enc _ (g_1.2 : List (Int × Int))) maps_nil))))) (map_bx rfl (map_agg (maps_cons rfl (maps_cons (Enc.map_enc _ (g_1.2 : List (Int × Int))) maps_nil))))), (hg_3 4 (.sl .nl (Enc.shp Int) 0 []) (.sl .nl (Enc.shp Int) 0 []) (keep_clear (s := s) (pk := [7]) h4 rfl rfl) rfl), (hg_3 5 (encO (.at 7 []) (.of ([] : List Int))) (encO (.at 5 []) (.of ([] : List Int))) rfl (map_encO (r := 7) (p := []) rfl rfl))⟩ ?_
  rintro s ⟨h1, h2, h4, h5⟩
  refine .nsq ?_
  refine .seq ?_
  refine .seq ?_
  refine run_reg ?_
  refine e_end ?_
  refine g_v0 (.int .i64 0) rfl rfl ?_
  refine g_end ?_
  refine e_end ?_
  refine renew [(1, (.int .i64 x_2)), (2, (.ref (.bx 2) 0 [] (.agg [(.int .i64 g_1.1), (Enc.enc (g_1.2 : List (Int × Int)))]))), (4, (.sl .nl (Enc.shp Int) 0 [])), (5, (encO (.at 5 []) (.of ([] : List Int)))), (6, (.int .i64 0))] ⟨h1, h2, h4, h5, rfl⟩ ?_
  rintro s ⟨h1, h2, h4, h5, h6⟩
  refine .nsq ?_
  refine .block ?_
  refine .loop ?_
  exact t_f85_l1 H x_2 g_1 F [] 0 _ ⟨h1, h2, h4, h5, h6⟩ h
end
def e85 (F : Nat) : Ent := ⟨85, da (fun (x : ((Int × (List (Int × Int))) × Int × Unit)) => s_l2Neighbors F x.1 x.2.1) (fun (r : (List Int)) => (Enc.enc (r : (List Int)))), 0, false, selF []⟩
theorem p85 {F : Nat} {x0 : (Int × (List (Int × Int)))} {x1 : Int} {r : (List Int)} (h : s_l2Neighbors F x0 x1 = some r) : (e85 F).den [Enc.enc x0, Enc.enc x1] = some (Enc.enc (r : (List Int))) := da_put (f := fun (x : ((Int × (List (Int × Int))) × Int × Unit)) => s_l2Neighbors F x.1 x.2.1) (t := fun (r : (List Int)) => (Enc.enc (r : (List Int)))) (x0, x1, ()) h
theorem o85 {D : Den} {σ : Sig} {F : Nat} (hF : Fits2 Try.prog D σ) (H : H85 D σ F) : (e85 F).Ok Try.prog := by
  refine ok_of (f := 85) (show unk 85 = 85 from rfl) (fun args r h => ?_) ⟨Try.f85, Try.func85, rfl, rfl⟩
  obtain ⟨⟨x0, x1, _⟩, y, rfl, hy, rfl⟩ := da_open h
  exact contract_run hF (by kernel_rfl) Try.func85 rfl c85 (show 2 ≤ Try.f85.ntmps by decide) (t85 H x0 x1 _ ⟨rfl, rfl⟩ hy)
/- loop.example/g01109/spec.l1Put -/
def A111_1 : AC := (AC.cond (O.t 31) (AC.seq (AC.reg [] [(I.mk (some 32) none false (X.v (A.mov (O.t 0)))), (I.mk (some 4) none false (X.v (A.mov (O.t 32))))] []) AC.ret) AC.skip)
def A111_2 : AC := (AC.seq (AC.reg [.clr [33, 37, 39, 40, 44]] [(I.mk (some 33) none true (X.lit (V.int IntKind.i64 (Int.ofNat 0)) 0 [])), (I.mk (some 34) none false (X.v (A.mov (O.t 0)))), (I.mk (some 35) none false (X.v (A.mov (O.t 5)))), (I.mk (some 36) none false (X.v (A.slice (O.t 34) none (some (O.t 35)) 1))), (I.mk (some 37) none true (X.appS Sh.s (O.t 33) (O.t 36))), (I.mk (some 38) none false (X.v (A.mov (O.t 1)))), (I.mk (some 39) none false (X.lit (V.int IntKind.i64 (Int.ofNat 0)) 1 [(0, 0, (O.t 38))])), (I.mk (some 40) none true (X.appS Sh.s (O.t 37) (O.t 39))), (I.mk (some 41) none false (X.v (A.mov (O.t 0)))), (I.mk (some 42) none false (X.v (A.mov (O.t 5)))), (I.mk (some 43) none false (X.v (A.slice (O.t 41) (some (O.t 42)) none 1))), (I.mk (some 44) none false (X.appS Sh.s (O.t 40) (O.t 43))), (I.mk (some 4) none false (X.v (A.mov (O.t 44))))] [.home 44 4]) AC.ret)
def A111_4 : AC := (AC.cond (O.t 17) AC.skip (AC.exit 0))
def A111_5 : AC := (AC.block 1 (AC.reg [] [(I.mk (some 18) none false (X.v (A.mov (O.t 5)))), (I.mk (some 19) none false (X.v (A.bin BinOp.add (O.t 18) (O.k (V.int IntKind.i64 (Int.ofNat 1)))))), (I.mk (some 5) none false (X.v (A.mov (O.t 19))))] []))
def A111_3 : AC := (AC.seq (AC.seq (AC.reg [] [(I.mk (some 6) none false (X.v (A.mov (O.t 5)))), (I.mk (some 7) none false (X.v (A.mov (O.t 0)))), (I.mk (some 8) none false (X.v (A.len (O.t 7)))), (I.mk (some 9) none false (X.v (A.bin BinOp.lss (O.t 6) (O.t 8)))), (I.mk (some 10) none false (X.v (A.mov (O.t 9)))), (I.mk (some 11) (some (10, true)) false (X.v (A.mov (O.t 0)))), (I.mk (some 12) (some (10, true)) false (X.v (A.mov (O.t 5)))), (I.mk (some 13) (some (10, true)) false (X.v (A.idx (O.t 11) (O.t 12) 1))), (I.mk (some 14) (some (10, true)) false (X.v (A.load Sh.s (O.t 13)))), (I.mk (some 15) (some (10, true)) false (X.v (A.mov (O.t 1)))), (I.mk (some 16) (some (10, true)) false (X.v (A.bin BinOp.lss (O.t 14) (O.t 15)))), (I.mk (some 17) none false (X.v (A.pick (O.t 10) (O.t 16) (O.k (V.bool false)))))] []) A111_4) A111_5)
def A111_6 : AC := (AC.seq (AC.seq (AC.reg [] [(I.mk (some 20) none false (X.v (A.mov (O.t 5)))), (I.mk (some 21) none false (X.v (A.mov (O.t 0)))), (I.mk (some 22) none false (X.v (A.len (O.t 21)))), (I.mk (some 23) none false (X.v (A.bin BinOp.lss (O.t 20) (O.t 22)))), (I.mk (some 24) none false (X.v (A.mov (O.t 23)))), (I.mk (some 25) (some (24, true)) false (X.v (A.mov (O.t 0)))), (I.mk (some 26) (some (24, true)) false (X.v (A.mov (O.t 5)))), (I.mk (some 27) (some (24, true)) false (X.v (A.idx (O.t 25) (O.t 26) 1))), (I.mk (some 28) (some (24, true)) false (X.v (A.load Sh.s (O.t 27)))), (I.mk (some 29) (some (24, true)) false (X.v (A.mov (O.t 1)))), (I.mk (some 30) (some (24, true)) false (X.v (A.bin BinOp.eql (O.t 28) (O.t 29)))), (I.mk (some 31) none false (X.v (A.pick (O.t 24) (O.t 30) (O.k (V.bool false)))))] []) A111_1) A111_2)
def A111_8 : AC := (AC.seq (AC.block 0 (AC.loop A111_3)) A111_6)
def A111_7 : AC := (AC.seq (AC.reg [] [(I.mk (some 5) none false (X.v (A.mov (O.k (V.int IntKind.i64 (Int.ofNat 0))))))] []) A111_8)
def A111 : AC := (AC.seq (AC.reg [] [(I.mk (some 4) none false (X.v (A.mov (O.k (V.sl Tok.nl Sh.s 0 [])))))] []) A111_7)
def an111 : List An := [{ id := 6, pre := [.clr [33, 37, 39, 40, 44]], ep := [.home 44 4], lin := [0, 4, 7], sp := [4, 7, 11] }]
theorem c111 : cC Try.prog Try.f111.ntmps an111 (Try.f111.body.getD .skip) = some A111 := by kernel_rfl
structure H111 (D : Den) (σ : Sig) (F : Nat) : Prop where
  mk ::
abbrev R111 (r : (List Int)) : (Nat → V) → Prop := RR Try.prog [.tmp 4] 0 true (Enc.enc (r : (List Int)))
section
variable {D : Den} {σ : Sig} {F : Nat} {r : (List Int)}
def s_l1Put_j1 (F : Nat) (l_1 : (List Int)) (n_2 : Int) (k_6 : Int)  (t31_13 : Bool) : Option (List Int) :=
  bif t31_13 then
    some l_1
  else
    (sub l_1 0 k_6).bind fun sub_14 =>
    (appL [] sub_14).bind fun ap_15 =>
    (appL ap_15 [n_2]).bind fun ap_16 =>
    (sub l_1 k_6 (l_1.length : Int)).bind fun sub_17 =>
    (appL ap_16 sub_17).bind fun ap_18 =>
    some ap_18
theorem t_f111_j1 (H : H111 D σ F) (l_1 : (List Int)) (n_2 : Int) (k_6 : Int)  (t31_13 : Bool) (s : Nat → V) (hs : Facts [(0, (Enc.enc (l_1 : List Int))), (1, (.int .i64 n_2)), (4, (.sl .nl (Enc.shp Int) 0 [])), (5, (.int .i64 k_6)), (31, (.bool t31_13))] s) (h : s_l1Put_j1 F l_1 n_2 k_6  t31_13 = some r) : Run D σ (R111 r) (.nrm [.sq A111_1, .sq A111_2]) s := by
  unfold s_l1Put_j1 at h
  obtain ⟨h0, h1, h4, h5, h31⟩ := hs
  refine .nsq ?_
  refine run_cond (t := t31_13) h31 h (fun h => ?_) (fun h => ?_)
  · refine .seq ?_
    refine run_reg ?_
    refine e_end ?_
    refine g_v1 (t := 0) (u := (Enc.enc (l_1 : List Int))) (Enc.enc (l_1 : List Int)) h0 rfl rfl ?_
    refine g_v1 (t := 32) (u := (Enc.enc (l_1 : List Int))) (Enc.enc (l_1 : List Int)) rfl rfl rfl ?_
    refine g_end ?_
    refine e_end ?_
    refine renew [(0, (Enc.enc (l_1 : List Int))), (1, (.int .i64 n_2)), (4, (Enc.enc (l_1 : List Int))), (5, (.int .i64 k_6))] ⟨h0, h1, rfl, h5⟩ ?_
    rintro s ⟨h0, h1, h4, h5⟩
    refine .nsq ?_
    refine .ret ?_
    have hr := Option.some.inj h
    subst hr
    exact rrA (res_tmp h4) (fin_ret1 (fin_enc (x := (l_1 : (List Int)))))
  · refine .skip ?_
    refine .nsq ?_
    refine .seq ?_
    refine run_reg ?_
    refine e_clr ?_
    refine e_end ?_
    refine g_litLl [] [] trivial rfl rfl (gone_clear (s := s) (pk := [33, 37, 39, 40, 44]) (t := 33) rfl) ?_
    refine g_v1 (t := 0) (u := (Enc.enc (l_1 : List Int))) (Enc.enc (l_1 : List Int)) (keep_clear (s := s) (pk := [33, 37, 39, 40, 44]) h0 rfl (Enc.map_enc _ (l_1 : List Int))) rfl rfl ?_
    refine g_v1 (t := 5) (u := (.int .i64 k_6)) (.int .i64 k_6) (keep_clear (s := s) (pk := [33, 37, 39, 40, 44]) h5 rfl rfl) rfl rfl ?_
    obtain ⟨sub_14, E_sub_14, h⟩ := bind_some h
    refine g_v (Enc.enc (sub_14 : List Int)) (ev_slice (xs := l_1) rfl (optI_none) (optI_some rfl) E_sub_14 rfl) ?_
    obtain ⟨ap_15, E_ap_15, h⟩ := bind_some h
    refine g_appS (p := []) (xs := []) (ys := (sub_14 : List Int)) (t2 := .sh) (lo2 := 0) rfl rfl rfl (gone_clear (s := s) (pk := [33, 37, 39, 40, 44]) (t := 37) rfl) rfl E_ap_15 ?_
    refine g_v1 (t := 1) (u := (.int .i64 n_2)) (.int .i64 n_2) (keep_clear (s := s) (pk := [33, 37, 39, 40, 44]) h1 rfl rfl) rfl rfl ?_
    refine g_litL [(38, (.int .i64 n_2))] [Enc.enc (n_2 : Int)] rfl rfl rfl (gone_clear (s := s) (pk := [33, 37, 39, 40, 44]) (t := 39) rfl) ?_
    obtain ⟨ap_16, E_ap_16, h⟩ := bind_some h
    refine g_appS (p := []) (xs := ap_15) (ys := ([n_2] : List Int)) (t2 := (.at 39 [])) (lo2 := 0) rfl rfl rfl (gone_clear (s := s) (pk := [33, 37, 39, 40, 44]) (t := 40) rfl) rfl E_ap_16 ?_
    refine g_v1 (t := 0) (u := (Enc.enc (l_1 : List Int))) (Enc.enc (l_1 : List Int)) (keep_clear (s := s) (pk := [33, 37, 39, 40, 44]) h0 rfl (Enc.map_enc _ (l_1 : List Int))) rfl rfl ?_
    refine g_v1 (t := 5) (u := (.int .i64 k_6)) (.int .i64 k_6) (keep_clear (s := s) (pk := [33, 37, 39, 40, 44]) h5 rfl rfl) rfl rfl ?_
    obtain ⟨sub_17, E_sub_17, h⟩ := bind_some h
    refine g_v (Enc.enc (sub_17 : List Int)) (ev_slice (xs := l_1) rfl (optI_some rfl) (optI_none) E_sub_17 rfl) ?_
    obtain ⟨ap_18, E_ap_18, h⟩ := bind_some h
    refine g_appS (p := []) (xs := ap_16) (ys := (sub_17 : List Int)) (t2 := .sh) (lo2 := 0) rfl rfl rfl (gone_clear (s := s) (pk := [33, 37, 39, 40, 44]) (t := 44) rfl) rfl E_ap_18 ?_
    refine g_v1 (t := 44) (u := (encO (.at 44 []) (.of (ap_18 : List Int)))) (encO (.at 44 []) (.of (ap_18 : List Int))) rfl rfl rfl ?_
    refine g_end ?_
    refine e_home (r := 44) (x := 4) (v := (encO (.at 44 []) (.of (ap_18 : List Int)))) (by exact rfl) rfl (fun s_2 hg_2 => ?_)
    refine e_end ?_
    refine renew [(4, (encO (.at 4 []) (.of (ap_18 : List Int))))] (hg_2 4 (encO (.at 44 []) (.of (ap_18 : List Int))) (encO (.at 4 []) (.of (ap_18 : List Int))) rfl (map_encO (r := 44) (p := []) rfl rfl)) ?_
    rintro s h4
    refine .nsq ?_
    refine .ret ?_
    have hr := Option.some.inj h
    subst hr
    exact rrA (res_tmp h4) (fin_ret1 (fin_own (o := .of ap_18)))
def s_l1Put_j2 (F : Nat) (l_1 : (List Int)) (n_2 : Int) (k_6 : Int) (c1 : Int → Option (List Int)) (t17_11 : Bool) : Option (List Int) :=
  bif t17_11 then
    c1 (w64 (k_6 + 1))
  else
    bif decide (k_6 < (l_1.length : Int)) then
      (idx l_1 k_6).bind fun e_19 =>
      s_l1Put_j1 F l_1 n_2 k_6 (e_19 == n_2)
    else
      s_l1Put_j1 F l_1 n_2 k_6 false
theorem t_f111_j2 (H : H111 D σ F) (l_1 : (List Int)) (n_2 : Int) (k_6 : Int) (c1 : Int → Option (List Int)) (Hc1 : ∀ (k_6 : Int) (s : Nat → V), Facts [(0, (Enc.enc (l_1 : List Int))), (1, (.int .i64 n_2)), (4, (.sl .nl (Enc.shp Int) 0 [])), (5, (.int .i64 k_6))] s → c1 k_6 = some r → Run D σ (R111 r) (.run A111_3 [.lp A111_3, .bk 0, .sq A111_6]) s) (t17_11 : Bool) (s : Nat → V) (hs : Facts [(0, (Enc.enc (l_1 : List Int))), (1, (.int .i64 n_2)), (4, (.sl .nl (Enc.shp Int) 0 [])), (5, (.int .i64 k_6)), (17, (.bool t17_11))] s) (h : s_l1Put_j2 F l_1 n_2 k_6 c1 t17_11 = some r) : Run D σ (R111 r) (.nrm [.sq A111_4, .sq A111_5, .lp A111_3, .bk 0, .sq A111_6]) s := by
  unfold s_l1Put_j2 at h
  obtain ⟨h0, h1, h4, h5, h17⟩ := hs
  refine .nsq ?_
  refine run_cond (t := t17_11) h17 h (fun h => ?_) (fun h => ?_)
  · refine .skip ?_
    refine .nsq ?_
    refine .block ?_
    refine run_reg ?_
    refine e_end ?_
    refine g_v1 (t := 5) (u := (.int .i64 k_6)) (.int .i64 k_6) h5 rfl rfl ?_
    refine g_v1 (t := 18) (u := (.int .i64 k_6)) (.int .i64 (w64 (k_6 + 1))) rfl rfl rfl ?_
    refine g_v1 (t := 19) (u := (.int .i64 (w64 (k_6 + 1)))) (.int .i64 (w64 (k_6 + 1))) rfl rfl rfl ?_
    refine g_end ?_
    refine e_end ?_
    refine renew [(0, (Enc.enc (l_1 : List Int))), (1, (.int .i64 n_2)), (4, (.sl .nl (Enc.shp Int) 0 [])), (5, (.int .i64 (w64 (k_6 + 1))))] ⟨h0, h1, h4, rfl⟩ ?_
    rintro s ⟨h0, h1, h4, h5⟩
    refine .nbk ?_
    refine .nlp ?_
    exact Hc1 (w64 (k_6 + 1)) _ ⟨h0, h1, h4, h5⟩ h
  · refine .exit ?_
    refine .esq ?_
    refine .elp ?_
    refine .ebk ?_
    refine .nsq ?_
    refine .seq ?_
    refine .seq ?_
    refine run_reg ?_
    refine e_end ?_
    refine g_v1 (t := 5) (u := (.int .i64 k_6)) (.int .i64 k_6) h5 rfl rfl ?_
    refine g_v1 (t := 0) (u := (Enc.enc (l_1 : List Int))) (Enc.enc (l_1 : List Int)) h0 rfl rfl ?_
    refine g_v (.int .i64 (l_1.length : Int)) (ev_len (xs := l_1) rfl) ?_
    refine g_v2 (t1 := 20) (t2 := 22) (u1 := (.int .i64 k_6)) (u2 := (.int .i64 (l_1.length : Int))) (.bool (decide (k_6 < (l_1.length : Int)))) rfl rfl rfl rfl ?_
    refine g_v1 (t := 23) (u := (.bool (decide (k_6 < (l_1.length : Int))))) (.bool (decide (k_6 < (l_1.length : Int)))) rfl rfl rfl ?_
    refine split_on (c := decide (k_6 < (l_1.length : Int))) h (fun hg5 h => ?_) (fun hg5 h => ?_)
    · refine g_yes (Eq.trans (b := .bool (decide (k_6 < (l_1.length : Int)))) rfl (congrArg V.bool hg5)) (g_v1 (t := 0) (u := (Enc.enc (l_1 : List Int))) (Enc.enc (l_1 : List Int)) h0 rfl rfl ?_)
      refine g_yes (Eq.trans (b := .bool (decide (k_6 < (l_1.length : Int)))) rfl (congrArg V.bool hg5)) (g_v1 (t := 5) (u := (.int .i64 k_6)) (.int .i64 k_6) h5 rfl rfl ?_)
      obtain ⟨e_19, E_e_19, h⟩ := bind_some h
      refine g_yes (Eq.trans (b := .bool (decide (k_6 < (l_1.length : Int)))) rfl (congrArg V.bool hg5)) (g_v (.ref .sh 0 [] (.int .i64 e_19)) (ev_idx (t := .sh) (lo := 0) (xs := l_1) rfl rfl E_e_19 rfl rfl) ?_)
      refine g_yes (Eq.trans (b := .bool (decide (k_6 < (l_1.length : Int)))) rfl (congrArg V.bool hg5)) (g_v1 (t := 27) (u := (.ref .sh 0 [] (.int .i64 e_19))) (.int .i64 e_19) rfl rfl rfl ?_)
      refine g_yes (Eq.trans (b := .bool (decide (k_6 < (l_1.length : Int)))) rfl (congrArg V.bool hg5)) (g_v1 (t := 1) (u := (.int .i64 n_2)) (.int .i64 n_2) h1 rfl rfl ?_)
      refine g_yes (Eq.trans (b := .bool (decide (k_6 < (l_1.length : Int)))) rfl (congrArg V.bool hg5)) (g_v2 (t1 := 28) (t2 := 29) (u1 := (.int .i64 e_19)) (u2 := (.int .i64 n_2)) (.bool (e_19 == n_2)) rfl rfl rfl rfl ?_)
      refine g_v2 (t1 := 24) (t2 := 30) (u1 := (.bool true)) (u2 := (.bool (e_19 == n_2))) (.bool (e_19 == n_2)) (Eq.trans (b := .bool (decide (k_6 < (l_1.length : Int)))) rfl (congrArg V.bool hg5)) rfl rfl rfl ?_
      refine g_end ?_
      refine e_end ?_
      refine renew [(0, (Enc.enc (l_1 : List Int))), (1, (.int .i64 n_2)), (4, (.sl .nl (Enc.shp Int) 0 [])), (5, (.int .i64 k_6)), (31, (.bool (e_19 == n_2)))] ⟨h0, h1, h4, h5, rfl⟩ ?_
      rintro s ⟨h0, h1, h4, h5, h31⟩
      exact t_f111_j1 H l_1 n_2 k_6 (e_19 == n_2) _ ⟨h0, h1, h4, h5, h31⟩ h
    · refine g_no (Eq.trans (b := .bool (decide (k_6 < (l_1.length : Int)))) rfl (congrArg V.bool hg5)) ?_
      refine g_no (Eq.trans (b := .bool (decide (k_6 < (l_1.length : Int)))) rfl (congrArg V.bool hg5)) ?_
      refine g_no (Eq.trans (b := .bool (decide (k_6 < (l_1.length : Int)))) rfl (congrArg V.bool hg5)) ?_
      refine g_no (Eq.trans (b := .bool (decide (k_6 < (l_1.length : Int)))) rfl (congrArg V.bool hg5)) ?_
      refine g_no (Eq.trans (b := .bool (decide (k_6 < (l_1.length : Int)))) rfl (congrArg V.bool hg5)) ?_
      refine g_no (Eq.trans (b := .bool (decide (k_6 < (l_1.length : Int)))) rfl (congrArg V.bool hg5)) ?_
      refine g_v2 (t1 := 24) (t2 := 30) (u1 := (.bool false)) (u2 := (.tup [])) (.bool false) (Eq.trans (b := .bool (decide (k_6 < (l_1.length : Int)))) rfl (congrArg V.bool hg5)) rfl rfl rfl ?_
      refine g_end ?_
      refine e_end ?_
      refine renew [(0, (Enc.enc (l_1 : List Int))), (1, (.int .i64 n_2)), (4, (.sl .nl (Enc.shp Int) 0 [])), (5, (.int .i64 k_6)), (31, (.bool false))] ⟨h0, h1, h4, h5, rfl⟩ ?_
      rintro s ⟨h0, h1, h4, h5, h31⟩
      exact t_f111_j1 H l_1 n_2 k_6 false _ ⟨h0, h1, h4, h5, h31⟩ h
def s_l1Put_l1 (F : Nat) (l_1 : (List Int)) (n_2 : Int)  : Nat → Int → Option (List Int)
  | 0, _ => none
  | k + 1, k_6 =>
    bif decide (k_6 < (l_1.length : Int)) then
      (idx l_1 k_6).bind fun e_20 =>
      s_l1Put_j2 F l_1 n_2 k_6 (s_l1Put_l1 F l_1 n_2 k) (decide (e_20 < n_2))
    else
      s_l1Put_j2 F l_1 n_2 k_6 (s_l1Put_l1 F l_1 n_2 k) false
theorem t_f111_l1 (H : H111 D σ F) (l_1 : (List Int)) (n_2 : Int)  : ∀ (k : Nat) (k_6 : Int) (s : Nat → V), Facts [(0, (Enc.enc (l_1 : List Int))), (1, (.int .i64 n_2)), (4, (.sl .nl (Enc.shp Int) 0 [])), (5, (.int .i64 k_6))] s → s_l1Put_l1 F l_1 n_2 k k_6 = some r → Run D σ (R111 r) (.run A111_3 [.lp A111_3, .bk 0, .sq A111_6]) s := by
  intro k
  induction k with
  | zero => intro k_6 s _ h; exact nomatch (h : (none : Option _) = some r)
  | succ k ih =>
    intro k_6 s hs h
    rw [s_l1Put_l1] at h
    obtain ⟨h0, h1, h4, h5⟩ := hs
    refine .seq ?_
    refine .seq ?_
    refine run_reg ?_
    refine e_end ?_
    refine g_v1 (t := 5) (u := (.int .i64 k_6)) (.int .i64 k_6) h5 rfl rfl ?_
    refine g_v1 (t := 0) (u := (Enc.enc (l_1 : List Int))) (Enc.enc (l_1 : List Int)) h0 rfl rfl ?_
    refine g_v (.int .i64 (l_1.length : Int)) (ev_len (xs := l_1) rfl) ?_
    refine g_v2 (t1 := 6) (t2 := 8) (u1 := (.int .i64 k_6)) (u2 := (.int .i64 (l_1.length : Int))) (.bool (decide (k_6 < (l_1.length : Int)))) rfl rfl rfl rfl ?_
    refine g_v1 (t := 9) (u := (.bool (decide (k_6 < (l_1.length : Int))))) (.bool (decide (k_6 < (l_1.length : Int)))) rfl rfl rfl ?_
    refine split_on (c := decide (k_6 < (l_1.length : Int))) h (fun hg5 h => ?_) (fun hg5 h => ?_)
    · refine g_yes (Eq.trans (b := .bool (decide (k_6 < (l_1.length : Int)))) rfl (congrArg V.bool hg5)) (g_v1 (t := 0) (u := (Enc.enc (l_1 : List Int))) (Enc.enc (l_1 : List Int)) h0 rfl rfl ?_)
      refine g_yes (Eq.trans (b := .bool (decide (k_6 < (l_1.length : Int)))) rfl (congrArg V.bool hg5)) (g_v1 (t := 5) (u := (.int .i64 k_6)) (.int .i64 k_6) h5 rfl rfl ?_)
      obtain ⟨e_20, E_e_20, h⟩ := bind_some h
      refine g_yes (Eq.trans (b := .bool (decide (k_6 < (l_1.length : Int)))) rfl (congrArg V.bool hg5)) (g_v (.ref .sh 0 [] (.int .i64 e_20)) (ev_idx (t := .sh) (lo := 0) (xs := l_1) rfl rfl E_e_20 rfl rfl) ?_)
      refine g_yes (Eq.trans (b := .bool (decide (k_6 < (l_1.length : Int)))) rfl (congrArg V.bool hg5)) (g_v1 (t := 13) (u := (.ref .sh 0 [] (.int .i64 e_20))) (.int .i64 e_20) rfl rfl rfl ?_)
      refine g_yes (Eq.trans (b := .bool (decide (k_6 < (l_1.length : Int)))) rfl (congrArg V.bool hg5)) (g_v1 (t := 1) (u := (.int .i64 n_2)) (.int .i64 n_2) h1 rfl rfl ?_)
      refine g_yes (Eq.trans (b := .bool (decide (k_6 < (l_1.length : Int)))) rfl (congrArg V.bool hg5)) (g_v2 (t1 := 14) (t2 := 15) (u1 := (.int .i64 e_20)) (u2 := (.int .i64 n_2)) (.bool (decide (e_20 < n_2))) rfl rfl rfl rfl ?_)
      refine g_v2 (t1 := 10) (t2 := 16) (u1 := (.bool true)) (u2 := (.bool (decide (e_20 < n_2)))) (.bool (decide (e_20 < n_2))) (Eq.trans (b := .bool (decide (k_6 < (l_1.length : Int)))) rfl (congrArg V.bool hg5)) rfl rfl rfl ?_
      refine g_end ?_
      refine e_end ?_
      refine renew [(0, (Enc.enc (l_1 : List Int))), (1, (.int .i64 n_2)), (4, (.sl .nl (Enc.shp Int) 0 [])), (5, (.int .i64 k_6)), (17, (.bool (decide (e_20 < n_2))))] ⟨h0, h1, h4, h5, rfl⟩ ?_
      rintro s ⟨h0, h1, h4, h5, h17⟩
      exact t_f111_j2 H l_1 n_2 k_6 (s_l1Put_l1 F l_1 n_2 k) ih (decide (e_20 < n_2)) _ ⟨h0, h1, h4, h5, h17⟩ h
    · refine g_no (Eq.trans (b := .bool (decide (k_6 < (l_1.length : Int)))) rfl (congrArg V.bool hg5)) ?_
      refine g_no (Eq.trans (b := .bool (decide (k_6 < (l_1.length : Int)))) rfl (congrArg V.bool hg5)) ?_
      refine g_no (Eq.trans (b := .bool (decide (k_6 < (l_1.length : Int)))) rfl (congrArg V.bool hg5)) ?_
      refine g_no (Eq.trans (b := .bool (decide (k_6 < (l_1.length : Int)))) rfl (congrArg V.bool hg5)) ?_
      refine g_no (Eq.trans (b := .bool (decide (k_6 < (l_1.length : Int)))) rfl (congrArg V.bool hg5)) ?_
      refine g_no (Eq.trans (b := .bool (decide (k_6 < (l_1.length : Int)))) rfl (congrArg V.bool hg5)) ?_
      refine g_v2 (t1 := 10) (t2 := 16) (u1 := (.bool false)) (u2 := (.tup [])) (.bool false) (Eq.trans (b := .bool (decide (k_6 < (l_1.length : Int)))) rfl (congrArg V.bool hg5)) rfl rfl rfl ?_
      refine g_end ?_
      refine e_end ?_
      refine renew [(0, (Enc.enc (l_1 : List Int))), (1, (.int .i64 n_2)), (4, (.sl .nl (Enc.shp Int) 0 [])), (5, (.int .i64 k_6)), (17, (.bool false))] ⟨h0, h1, h4, h5, rfl⟩ ?_
      rintro s ⟨h0, h1, h4, h5, h17⟩
      exact t_f111_j2 H l_1 n_2 k_6 (s_l1Put_l1 F l_1 n_2 k) ih false _ ⟨h0, h1, h4, h5, h17⟩ h
def s_l1Put (F : Nat) (l_1 : (List Int)) (n_2 : Int) : Option (List Int) :=
  s_l1Put_l1 F l_1 n_2 F 0
theorem t111 (H : H111 D σ F) (l_1 : (List Int)) (n_2 : Int) (s : Nat → V) (hs : Facts [(0, (Enc.enc (l_1 : List Int))), (1, (.int .i64 n_2))] s) (h : s_l1Put F l_1 n_2 = some r) : Run D σ (R111 r) (.run A111 []) s := by
  unfold s_l1Put at h
  obtain ⟨h0, h1⟩ := hs
  refine .seq ?_
  refine run_reg ?_
  refine e_end ?_
  refine g_v0 (.sl .nl (Enc.shp Int) 0 []) rfl rfl ?_
  refine g_end ?_
  refine e_end ?_
  refine renew [(0, (Enc.enc (l_1 : List Int))), (1, (.int .i64 n_2)), (4, (.sl .nl (Enc.shp Int) 0 []))] ⟨h0, h1, rfl⟩ ?_
  rintro s ⟨h0, h1, h4⟩
  refine .nsq ?_
  refine .seq ?_
  refine run_reg ?_
  refine e_end ?_
  refine g_v0 (.int .i64 0) rfl rfl ?_
  refine g_end ?_
  refine e_end ?_
  refine renew [(0, (Enc.enc (l_1 : List Int))), (1, (.int .i64 n_2)), (4, (.sl .nl (Enc.shp Int) 0 [])), (5, (.int .i64 0))] ⟨h0, h1, h4, rfl⟩ ?_
  rintro s ⟨h0, h1, h4, h5⟩
  refine .nsq ?_
  refine .seq ?_
  refine .block ?_
  refine .loop ?_
  exact t_f111_l1 H l_1 n_2 F 0 _ ⟨h0, h1, h4, h5⟩ h
end
def e111 (F : Nat) : Ent := ⟨111, da (fun (x : ((List Int) × Int × Unit)) => s_l1Put F x.1 x.2.1) (fun (r : (List Int)) => (Enc.enc (r : (List Int)))), 0, true, selF []⟩
theorem p111 {F : Nat} {x0 : (List Int)} {x1 : Int} {r : (List Int)} (h : s_l1Put F x0 x1 = some r) : (e111 F).den [Enc.enc x0, Enc.enc x1] = some (Enc.enc (r : (List Int))) := da_put (f := fun (x : ((List Int) × Int × Unit)) => s_l1Put F x.1 x.2.1) (t := fun (r : (List Int)) => (Enc.enc (r : (List Int)))) (x0, x1, ()) h
theorem o111 {D : Den} {σ : Sig} {F : Nat} (hF : Fits2 Try.prog D σ) (H : H111 D σ F) : (e111 F).Ok Try.prog := by
  refine ok_of (f := 111) (show unk 111 = 111 from rfl) (fun args r h => ?_) ⟨Try.f111, Try.func111, rfl, rfl⟩
  obtain ⟨⟨x0, x1, _⟩, y, rfl, hy, rfl⟩ := da_open h
  exact contract_run hF (by kernel_rfl) Try.func111 rfl c111 (show 2 ≤ Try.f111.ntmps by decide) (t111 H x0 x1 _ ⟨rfl, rfl⟩ hy)
end Go.Zq
