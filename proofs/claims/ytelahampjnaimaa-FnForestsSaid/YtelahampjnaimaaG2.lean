/- Functions of the program as typed functions, and that the machine runs as they say (part 2). No further condition. -/
import Derived.Test.YtelahampjnaimaaK4
import Derived.Test.YtelahampjnaimaaProg
import Derived.Test.YtelahampjnaimaaChecked
import Derived.KernelRfl
import Derived.Test.YtelahampjnaimaaG1
set_option linter.unusedVariables false
set_option linter.unusedSimpArgs false
namespace Go.Zq
open Go.Proofs
variable {D:Den} {σ:Sig} {F:Nat}
def zsr:AC:=(.seq (rr [jm 3 0,jx 4 (.callT (jf 47) [.t 3,jn 6] [0] []),jz (.store (.ag [.s,.p]) (.t 2) (.t 4))]) .ret)
def A21:AC:=(.seq (.reg [.clr [2]] [jx 2 (.alloc (.agg [i0,.sl .nl (.ag [.s,.s]) 0 []]))] []) zsr)
def zwK:List An:=[⟨0,[.clr [2]],[],[],[]⟩,⟨1,[],[],[2000000],[]⟩]
theorem c21:cq Try.prog Try.f21 zwK=some A21:=by kernel_rfl
structure H21 (D:Den) (σ:Sig) (F:Nat):Prop where
 c47:C47 (D 47) F
 g47:σ 47=some (uA,false)
abbrev R21 (r:(GR×CU)):(Nat→V)→Prop:=RT Try.prog [.cell 2 26] (Enc.enc (r.1:GR)) [cuV zD r.2]
section
variable {r:(GR×CU)}
def vu (F:Nat) (x1:CC):Option (GR×CU):=
 (wr F (Cu.mk x1.v) 6).bind fun r2=>
 some (r2.1,r2.2)
theorem t21 (H:H21 D σ F) (x1:CC) (s:Nat→V) (hs:zr [(0,bC x1.v)] s) (h:vu F x1=some r):Run D σ (R21 r) (.run A21 []) s:=by
 unfold vu at h
 have h0:=hs
 refine .seq (zw (z3 ?_))
 refine ez [(0,_),(2,_)] ⟨za h0 rfl (zj rfl Zh),ze rfl⟩ ?_
 rintro s ⟨h0,h2⟩
 refine xA h2 (gq (.nsq (.seq (rg (gm h0 fun h3=>?_)))))
 obtain ⟨r2,Er2,h⟩:=zb h
 refine vM (r:=zD) (b:=0) (x:=x1.v) (x':=r2.2) (vs:=[Enc.enc (6:Int)]) (res:=Enc.enc (r2.1:GR)) h0 (by exact (zJ (v:=cuV zD x1.v) h3 rfl (zJ (v:=Enc.enc (6:Int)) rfl rfl yw))) (yg te yr) fm1 (H.c47 _ _ _ Er2) H.g47 te rfl (fun s2 hb2 ha2=>ye (gV r2.1) (zF (show s2 2=(bZ 2) from ha2 2 (bZ 2) _ rfl rfl (zj rfl (mIx rfl))) rfl) (zF rfl rfl) (xN (by first | rfl | simp [V.toks,V.tokss,Enc.toks_enc,yd])) ?_)
 refine gz [(0,bC r2.2),(2,bG 2 r2.1)] ⟨zd (show s2 0=(bC r2.2) from hb2 0 h0) (zH rfl rfl Jg),zd (show s2 2=(bZ 2) from ha2 2 (bZ 2) _ rfl rfl (zj rfl (mIx rfl))) rfl⟩ ?_
 rintro s ⟨h0,h2⟩
 refine .nsq (.ret ?_)
 obtain rfl:=oi h
 exact rt1 (t:=0) (v7 h2 (by kernel_rfl)) h0
end
def e21 (F:Nat):Ent:=ent 21 (fun (x:(CC×Unit))=>vu F x.1) (fun (r:(GR×CU))=>(.tup [Enc.enc (r.1:GR),.tup [cuV zD r.2]])) uA false []
abbrev C21 (D:List V→Option V) (F:Nat):Prop:=∀ (x0:CC) r,vu F x0=some r→D [Arg.arg x0]=some (.tup [Enc.enc (r.1:GR),.tup [cuV zD r.2]])
theorem p21 {F:Nat}:C21 (e21 F).den F:=fun x0 _ h=>zU (x0,()) h
theorem o21 (hF:zG Try.prog D σ) (H:H21 D σ F):(e21 F).Ok Try.prog:=okZ (f:=21) Try.func21 fun ⟨x0,_⟩ y hy=>cT hF Try.func21 c21 (t21 H x0 _ rfl hy)
def zp9:AC:=(.seq (rr [jm 7 0,jm 8 1,jv 9 (.bin .geq (.t 7) (.t 8)),jm 10 9,jg 11 10 true (.mov (.t 0)),jg 12 10 true (.mov (.t 2)),jg 13 10 true (.bin .leq (.t 11) (.t 12)),jv 14 (.pick (.t 10) (.t 13) kf),jm 6 14]) .ret)
def A41:AC:=(.seq (rr [jv 6 (.mov kf)]) zp9)
def zwH:List An:=[]
theorem c41:cq Try.prog Try.f41 zwH=some A41:=by kernel_rfl
structure H41 (D:Den) (σ:Sig) (F:Nat):Prop where
 mk ::
abbrev R41 (r:Bool):(Nat→V)→Prop:=RR Try.prog [.tmp 6] 0 false (Enc.enc (r:Bool))
section
variable {r:Bool}
def WV (F:Nat) (x1:Int) (x2:Int) (x3:Int):Option Bool:=
 bif decide (x1≥x2) then
  some (decide (x1≤x3))
 else
  some false
theorem t41 (H:H41 D σ F) (x1:Int) (x2:Int) (x3:Int) (s:Nat→V) (hs:zr [(0,ji x1),(1,ji x2),(2,ji x3)] s) (h:WV F x1 x2 x3=some r):Run D σ (R41 r) (.run A41 []) s:=by
 unfold WV at h
 obtain ⟨h0,h1,h2⟩:=hs
 refine .seq (rg (g0 (jb false) fun h6=>gq (.nsq (.seq (rg (gm h0 fun h7=>gm h1 fun h8=>g2 7 8 (jb (decide (x1≥x2))) h7 h8 fun h9=>gm h9 fun h10=>z4 h (fun hg4 h=>?_) (fun hg4 h=>?_)))))))
 · refine zm (ct h10 hg4) (gm h0 fun h11=>zm (ct h10 hg4) (gm h2 fun h12=>zm (ct h10 hg4) (g2 11 12 (jb (decide (x1≤x3))) h11 h12 fun h13=>g2 10 13 (jb (decide (x1≤x3))) (ct h10 hg4) h13 fun h14=>gm h14 fun h6=>gq (.nsq (.ret ?_)))))
   obtain rfl:=oi h
   exact rrA (zo h6) rfl
 iterate 3 refine zR (ct h10 hg4) ?_
 refine g2 10 13 (jb false) (ct h10 hg4) (rf (.tup [])) fun h14=>gm h14 fun h6=>gq (.nsq (.ret ?_))
 obtain rfl:=oi h
 exact rrA (zo h6) rfl
end
def e41 (F:Nat):Ent:=ent 41 (fun (x:(Int×Int×Int×Unit))=>WV F x.1 x.2.1 x.2.2.1) (fun (r:Bool)=>(Enc.enc (r:Bool))) 0 false []
abbrev C41 (D:List V→Option V) (F:Nat):Prop:=∀ (x0:Int) (x1:Int) (x2:Int) r,WV F x0 x1 x2=some r→D [Enc.enc x0,Enc.enc x1,Enc.enc x2]=some (Enc.enc (r:Bool))
theorem p41 {F:Nat}:C41 (e41 F).den F:=fun x0 x1 x2 _ h=>zU (x0,x1,x2,()) h
theorem o41 (hF:zG Try.prog D σ) (H:H41 D σ F):(e41 F).Ok Try.prog:=okZ (f:=41) Try.func41 fun ⟨x0,x1,x2,_⟩ y hy=>cR hF Try.func41 c41 (t41 H x0 x1 x2 _ ⟨rfl,rfl,rfl⟩ hy)
def zsY:AC:=(.cond (.t 9) .skip (.exit 0))
def zm6:AC:=(.cond (.t 54) (.seq (rr [jv 2 (.mov kf)]) .ret) .skip)
def zpZ:AC:=(.seq (rr [jv 17 (.idxA (.t 4) (jn 0) 2 1),jl 18 17,jv 19 (.fld (.t 1) 0 0),jl 20 19,jv 21 (.bin .sub (.t 20) (jn 1)),jx 22 (.call (jf 41) [.t 18,jn 0,.t 21]),jv 23 (.un .not (.t 22)),jm 24 23,jg 25 24 false (.idxA (.t 4) (jn 1) 2 1),jg 26 24 false (.load .s (.t 25)),jg 27 24 false (.fld (.t 1) 0 0),jg 28 24 false (.load .s (.t 27)),jg 29 24 false (.bin .sub (.t 28) (jn 1)),.mk (some 30) (some (24,false)) false (.call (jf 41) [.t 26,jn 0,.t 29]),jg 31 24 false (.un .not (.t 30)),jv 32 (.pick (.t 24) kt (.t 31)),jm 33 32,jg 34 33 false (.idxA (.t 4) (jn 0) 2 1),jg 35 33 false (.load .s (.t 34)),jg 36 33 false (.idxA (.t 4) (jn 1) 2 1),jg 37 33 false (.load .s (.t 36)),jg 38 33 false (.bin .geq (.t 35) (.t 37)),jv 39 (.pick (.t 33) kt (.t 38)),jm 40 39,jg 41 40 false (.mov (.t 3)),jg 42 40 false (.bin .gtr (.t 41) (jn 0)),jg 43 40 false (.mov (.t 42)),jg 44 43 true (.fld (.t 1) 1 1),jg 45 43 true (.load .p (.t 44)),jg 46 43 true (.mov (.t 3)),jg 47 43 true (.bin .sub (.t 46) (jn 1)),jg 48 43 true (.idx (.t 45) (.t 47) 2),jg 49 43 true (.load (.ag [.s,.s]) (.t 48)),jg 50 43 true (.load (.ag [.s,.s]) (.t 4)),.mk (some 51) (some (43,true)) false (.call (jf 52) [.t 49,.t 50]),jg 52 43 true (.un .not (.t 51)),jg 53 40 false (.pick (.t 43) (.t 52) kf),jv 54 (.pick (.t 40) kt (.t 53))]) zm6)
def zmQ:AC:=(rr [jm 10 3,jv 11 (.bin .add (.t 10) (jn 1)),jm 3 11])
def zqZ:AC:=(.seq (.block 1 (.seq (.reg [.clr [4]] [jv 12 (.fld (.t 1) 1 1),jv 13 (.load .p (.t 12)),jm 14 3,jv 15 (.idx (.t 13) (.t 14) 2),jv 16 (.load (.ag [.s,.s]) (.t 15)),jx 4 (.alloc (.agg [i0,i0])),jz (.store (.ag [.s,.s]) (.t 4) (.t 16))] []) zpZ)) zmQ)
def Q7:AC:=(.seq (.seq (rr [jm 5 3,jv 6 (.fld (.t 1) 1 1),jv 7 (.load .p (.t 6)),jk 8 7,jv 9 (.bin .lss (.t 5) (.t 8))]) zsY) zqZ)
def zfR:AC:=(.seq (rr [jv 55 (.fld (.t 1) 0 0),jl 56 55,jx 57 (.call (jf 41) [.t 56,jn 0,jn 8]),jm 2 57]) .ret)
def zs3:AC:=(.block 0 (.loop Q7))
def zrF:AC:=(.seq (.seq (rr [jv 3 (.mov (jn 0))]) zs3) zfR)
def A28:AC:=(.seq (.reg [.clr [1]] [jx 1 (.box (.t 0)),jv 2 (.mov kf)] []) zrF)
def zwg:List An:=[⟨0,[.clr [1]],[],[],[]⟩,⟨4,[.clr [4]],[],[],[]⟩]
theorem c28:cq Try.prog Try.f28 zwg=some A28:=by kernel_rfl
structure H28 (D:Den) (σ:Sig) (F:Nat):Prop where
 c41:C41 (D 41) F
 g41:σ 41=some (0,false)
 c52:C52 (D 52) F
 g52:σ 52=some (0,false)
abbrev R28 (r:Bool):(Nat→V)→Prop:=RR Try.prog [.tmp 2] 0 false (Enc.enc (r:Bool))
section
variable {r:Bool}
def u9 (F:Nat) (x1:GR) (x12:Int) (c1:Int→Option Bool) (x28:Bool):Option Bool:=
 bif x28 then
  some false
 else
  c1 (w64 (x12 + 1))
theorem JQ (H:H28 D σ F) (x1:GR) (x12:Int) (c1:Int→Option Bool) (Hc1:∀ (x12:Int) (s:Nat→V),zr [(1,bG 1 x1),(2,jb false),(3,ji x12)] s→c1 x12=some r→Run D σ (R28 r) (.run Q7 [.lp Q7,.bk 0,.sq zfR]) s) (x28:Bool) (s:Nat→V) (hs:zr [(1,bG 1 x1),(2,jb false),(3,ji x12),(54,jb x28)] s) (h:u9 F x1 x12 c1 x28=some r):Run D σ (R28 r) (.nrm [.sq zm6,.bk 1,.sq zmQ,.lp Q7,.bk 0,.sq zfR]) s:=by
 unfold u9 at h
 obtain ⟨h1,h2,h3,h54⟩:=hs
 refine .nsq (zn h54 h (fun h=>?_) (fun h=>?_))
 · refine .seq (rg (g0 (jb false) fun h2=>gq (.nsq (.ret ?_))))
   obtain rfl:=oi h
   exact rrA (zo h2) rfl
 refine .skip (.nbk (.nsq (rg (gm h3 fun h10=>g1 10 (ji (w64 (x12 + 1))) h10 fun h11=>gm h11 fun h3=>gq (.nlp ?_)))))
 exact Hc1 (w64 (x12 + 1)) _ ⟨h1,h2,h3⟩ h
def xu (F:Nat) (x1:GR) :Nat→Int→Option Bool
 | 0,_=>none
 | k + 1,x12=>
   bif decide (x12 < (x1.2.length:Int)) then
    (idx x1.2 x12).bind fun v23=>
    (WV F v23.1 0 (w64 (x1.1 - 1))).bind fun r29=>
    bif (!r29) then
     u9 F x1 x12 (xu F x1 k) true
    else
     (WV F v23.2 0 (w64 (x1.1 - 1))).bind fun r30=>
     bif (!r30) then
      u9 F x1 x12 (xu F x1 k) true
     else
      bif decide (v23.1≥v23.2) then
       u9 F x1 x12 (xu F x1 k) true
      else
       bif decide (x12 > 0) then
        (idx x1.2 (w64 (x12 - 1))).bind fun v31=>
        (Z3 F v31 v23).bind fun r32=>
        u9 F x1 x12 (xu F x1 k) (!r32)
       else
        u9 F x1 x12 (xu F x1 k) false
   else
    (WV F x1.1 0 8).bind fun r33=>
    some r33
theorem zi4 (H:H28 D σ F) (x1:GR) :∀ (k:Nat) (x12:Int) (s:Nat→V),zr [(1,bG 1 x1),(2,jb false),(3,ji x12)] s→xu F x1 k x12=some r→Run D σ (R28 r) (.run Q7 [.lp Q7,.bk 0,.sq zfR]) s:=by
 intro k
 induction k with
 | zero=>intro x12 s _ h;exact nm h
 | succ k ih=>
   intro x12 s hs h
   rw [xu] at h
   obtain ⟨h1,h2,h3⟩:=hs
   refine .seq (.seq (rg (gm h3 fun h5=>g1 1 (.ref (.bx 1) 0 [1] (eP x1.2)) h1 fun h6=>g1 6 (eP x1.2) h6 fun h7=>gl x1.2 h7 fun h8=>g2 5 8 (jb (decide (x12 < (x1.2.length:Int)))) h5 h8 fun h9=>gq (.nsq (zn h9 h (fun h=>?_) (fun h=>?_))))))
   · refine .skip (.nsq (.seq (.block (.seq (zw (z3 ?_))))))
     refine ez [(1,_),(2,_),(3,_),(4,_)] ⟨za h1 rfl (zj rfl mIE),za h2 rfl mb,za h3 rfl mi,ze rfl⟩ ?_
     rintro s ⟨h1,h2,h3,h4⟩
     refine g1 1 (.ref (.bx 1) 0 [1] (eP x1.2)) h1 fun h12=>g1 12 (eP x1.2) h12 fun h13=>gm h3 fun h14=>?_
     obtain ⟨v23,Ev23,h⟩:=zb h
     refine gv (.ref .sh 0 [] (.agg [ji v23.1,ji v23.2])) (yn (t:=.sh) (lo:=0) (xs:=x1.2) h13 h14 Ev23 rfl rfl) fun h15=>g1 15 (.agg [ji v23.1,ji v23.2]) h15 fun h16=>xA h4 (ye (.agg [ji v23.1,ji v23.2]) (zF rfl rfl) (zF h16 rfl) (xN (by first | rfl | simp [V.toks,V.tokss,Enc.toks_enc,yd])) (gz [(1,bG 1 x1),(2,jb false),(3,ji x12),(4,.ref (.bx 4) 0 [] (.agg [ji v23.1,ji v23.2]))] ⟨zd h1 (zH rfl rfl uIE),zd h2 rfl,zd h3 rfl,zd rfl rfl⟩ ?_))
     rintro s ⟨h1,h2,h3,h4⟩
     refine .nsq (.seq (rg (g1 4 (.ref (.bx 4) 0 [0] (ji v23.1)) h4 fun h17=>g1 17 (ji v23.1) h17 fun h18=>g1 1 (.ref (.bx 1) 0 [0] (ji x1.1)) h1 fun h19=>g1 19 (ji x1.1) h19 fun h20=>g1 20 (ji (w64 (x1.1 - 1))) h20 fun h21=>?_)))
     obtain ⟨r29,Er29,h⟩:=zb h
     refine gcF [Enc.enc (v23.1:Int),Enc.enc (0:Int),Enc.enc (w64 (x1.1 - 1):Int)] (zf h18 rfl rfl (zf (v:=ji 0) rfl rfl rfl (zf h21 rfl rfl zA))) (H.c41 _ _ _ _ Er29) H.g41 (g1 22 (jb (!r29)) (rf (jb r29)) fun h23=>gm h23 fun h24=>z4 h (fun hg8 h=>?_) (fun hg8 h=>?_))
     · iterate 7 refine zR (ct h24 hg8) ?_
       refine g2 24 31 (jb true) (ct h24 hg8) (rf (.tup [])) fun h32=>gm h32 fun h33=>zR h33 ?_
       iterate 4 refine zR h33 ?_
       refine g2 33 38 (jb true) h33 (rf (.tup [])) fun h39=>gm h39 fun h40=>zR h40 ?_
       iterate 2 refine zR h40 ?_
       iterate 9 refine YF rfl ?_
       refine zR h40 (g2 40 53 (jb true) h40 (rf (.tup [])) fun h54=>gz [(1,_),(2,_),(3,_),(54,_)] ⟨h1,h2,h3,h54⟩ ?_)
       rintro s ⟨h1,h2,h3,h54⟩
       exact JQ H x1 x12 (xu F x1 k) ih true _ ⟨h1,h2,h3,h54⟩ h
     refine zm (ct h24 hg8) (g1 4 (.ref (.bx 4) 0 [1] (ji v23.2)) h4 fun h25=>zm (ct h24 hg8) (g1 25 (ji v23.2) h25 fun h26=>zm (ct h24 hg8) (g1 1 (.ref (.bx 1) 0 [0] (ji x1.1)) h1 fun h27=>zm (ct h24 hg8) (g1 27 (ji x1.1) h27 fun h28=>zm (ct h24 hg8) (g1 28 (ji (w64 (x1.1 - 1))) h28 fun h29=>?_)))))
     obtain ⟨r30,Er30,h⟩:=zb h
     refine zm (ct h24 hg8) (gcF [Enc.enc (v23.2:Int),Enc.enc (0:Int),Enc.enc (w64 (x1.1 - 1):Int)] (zf h26 rfl rfl (zf (v:=ji 0) rfl rfl rfl (zf h29 rfl rfl zA))) (H.c41 _ _ _ _ Er30) H.g41 (zm (ct h24 hg8) (g1 30 (jb (!r30)) (rf (jb r30)) fun h31=>g2 24 31 (jb (!r30)) (ct h24 hg8) h31 fun h32=>gm h32 fun h33=>z4 h (fun hg17 h=>?_) (fun hg17 h=>?_))))
     · iterate 5 refine zR (ct h33 hg17) ?_
       refine g2 33 38 (jb true) (ct h33 hg17) (rf (.tup [])) fun h39=>gm h39 fun h40=>zR h40 ?_
       iterate 2 refine zR h40 ?_
       iterate 9 refine YF rfl ?_
       refine zR h40 (g2 40 53 (jb true) h40 (rf (.tup [])) fun h54=>gz [(1,_),(2,_),(3,_),(54,_)] ⟨h1,h2,h3,h54⟩ ?_)
       rintro s ⟨h1,h2,h3,h54⟩
       exact JQ H x1 x12 (xu F x1 k) ih true _ ⟨h1,h2,h3,h54⟩ h
     refine zm (ct h33 hg17) (g1 4 (.ref (.bx 4) 0 [0] (ji v23.1)) h4 fun h34=>zm (ct h33 hg17) (g1 34 (ji v23.1) h34 fun h35=>zm (ct h33 hg17) (g1 4 (.ref (.bx 4) 0 [1] (ji v23.2)) h4 fun h36=>zm (ct h33 hg17) (g1 36 (ji v23.2) h36 fun h37=>zm (ct h33 hg17) (g2 35 37 (jb (decide (v23.1≥v23.2))) h35 h37 fun h38=>g2 33 38 (jb (decide (v23.1≥v23.2))) (ct h33 hg17) h38 fun h39=>gm h39 fun h40=>z4 h (fun hg24 h=>?_) (fun hg24 h=>?_))))))
     · iterate 3 refine zR (ct h40 hg24) ?_
       iterate 9 refine YF rfl ?_
       refine zR (ct h40 hg24) (g2 40 53 (jb true) (ct h40 hg24) (rf (.tup [])) fun h54=>gz [(1,_),(2,_),(3,_),(54,_)] ⟨h1,h2,h3,h54⟩ ?_)
       rintro s ⟨h1,h2,h3,h54⟩
       exact JQ H x1 x12 (xu F x1 k) ih true _ ⟨h1,h2,h3,h54⟩ h
     refine zm (ct h40 hg24) (gm h3 fun h41=>zm (ct h40 hg24) (g1 41 (jb (decide (x12 > 0))) h41 fun h42=>zm (ct h40 hg24) (gm h42 fun h43=>z4 h (fun hg27 h=>?_) (fun hg27 h=>?_))))
     · refine zm (ct h43 hg27) (g1 1 (.ref (.bx 1) 0 [1] (eP x1.2)) h1 fun h44=>zm (ct h43 hg27) (g1 44 (eP x1.2) h44 fun h45=>zm (ct h43 hg27) (gm h3 fun h46=>zm (ct h43 hg27) (g1 46 (ji (w64 (x12 - 1))) h46 fun h47=>?_))))
       obtain ⟨v31,Ev31,h⟩:=zb h
       refine zm (ct h43 hg27) (gv (.ref .sh 0 [] (.agg [ji v31.1,ji v31.2])) (yn (t:=.sh) (lo:=0) (xs:=x1.2) h45 h47 Ev31 rfl rfl) fun h48=>zm (ct h43 hg27) (g1 48 (.agg [ji v31.1,ji v31.2]) h48 fun h49=>zm (ct h43 hg27) (g1 4 (.agg [ji v23.1,ji v23.2]) h4 fun h50=>?_)))
       obtain ⟨r32,Er32,h⟩:=zb h
       refine zm (ct h43 hg27) (gcF [Enc.enc (v31:(Int×Int)),Enc.enc (v23:(Int×Int))] (zf h49 rfl (Enc.erase_enc (v31:(Int×Int))) (zf h50 rfl (Enc.erase_enc (v23:(Int×Int))) zA)) (H.c52 _ _ _ Er32) H.g52 (zm (ct h43 hg27) (g1 51 (jb (!r32)) (rf (jb r32)) fun h52=>zm (ct h40 hg24) (g2 43 52 (jb (!r32)) (ct h43 hg27) h52 fun h53=>g2 40 53 (jb (!r32)) (ct h40 hg24) h53 fun h54=>gz [(1,_),(2,_),(3,_),(54,_)] ⟨h1,h2,h3,h54⟩ ?_))))
       rintro s ⟨h1,h2,h3,h54⟩
       exact JQ H x1 x12 (xu F x1 k) ih (!r32) _ ⟨h1,h2,h3,h54⟩ h
     iterate 9 refine zR (ct h43 hg27) ?_
     refine zm (ct h40 hg24) (g2 43 52 (jb false) (ct h43 hg27) (rf (.tup [])) fun h53=>g2 40 53 (jb false) (ct h40 hg24) h53 fun h54=>gz [(1,_),(2,_),(3,_),(54,_)] ⟨h1,h2,h3,h54⟩ ?_)
     rintro s ⟨h1,h2,h3,h54⟩
     exact JQ H x1 x12 (xu F x1 k) ih false _ ⟨h1,h2,h3,h54⟩ h
   refine .exit (.esq (.elp (.ebk (.nsq (.seq (rg (g1 1 (.ref (.bx 1) 0 [0] (ji x1.1)) h1 fun h55=>g1 55 (ji x1.1) h55 fun h56=>?_)))))))
   obtain ⟨r33,Er33,h⟩:=zb h
   refine gcF [Enc.enc (x1.1:Int),Enc.enc (0:Int),Enc.enc (8:Int)] (zf h56 rfl rfl (zf (v:=ji 0) rfl rfl rfl (zf (v:=ji 8) rfl rfl rfl zA))) (H.c41 _ _ _ _ Er33) H.g41 (gm (rf (jb r33)) fun h2=>gq (.nsq (.ret ?_)))
   obtain rfl:=oi h
   exact rrA (zo h2) rfl
def Zu (F:Nat) (x1:GR):Option Bool:=
 xu F x1 F 0
theorem t28 (H:H28 D σ F) (x1:GR) (s:Nat→V) (hs:zr [(0,gV x1)] s) (h:Zu F x1=some r):Run D σ (R28 r) (.run A28 []) s:=by
 unfold Zu at h
 have h0:=hs
 refine .seq (zw (z3 ?_))
 refine ez [(0,_),(1,_)] ⟨za h0 rfl mIE,ze rfl⟩ ?_
 rintro s ⟨h0,h1⟩
 refine xo (gV x1) (zF h0 rfl) h1 rfl (g0 (jb false) fun h2=>gq (.nsq (.seq (.seq (rg (g0 (ji 0) fun h3=>gq (.nsq (.block (.loop ?_)))))))))
 exact zi4 H x1 F 0 _ ⟨rfl,h2,h3⟩ h
end
def e28 (F:Nat):Ent:=ent 28 (fun (x:(GR×Unit))=>Zu F x.1) (fun (r:Bool)=>(Enc.enc (r:Bool))) 0 false []
abbrev C28 (D:List V→Option V) (F:Nat):Prop:=∀ (x0:GR) r,Zu F x0=some r→D [Enc.enc x0]=some (Enc.enc (r:Bool))
theorem p28 {F:Nat}:C28 (e28 F).den F:=fun x0 _ h=>zU (x0,()) h
theorem o28 (hF:zG Try.prog D σ) (H:H28 D σ F):(e28 F).Ok Try.prog:=okZ (f:=28) Try.func28 fun ⟨x0,_⟩ y hy=>cR hF Try.func28 c28 (t28 H x0 _ rfl hy)
def zvE:AC:=(.cond (.t 10) .skip (.exit 0))
def zsn:AC:=(.cond (.t 17) (.reg [.clr [20,21]] [jm 18 5,jm 19 6,jx 20 (.lit i0 1 [(0,0,.t 19)]),jx 21 (.app .s (.t 18) (.t 20)),jm 5 21] [.home 21 5]) .skip)
def zm2:AC:=(rr [jm 11 6,jv 12 (.bin .add (.t 11) (jn 1)),jm 6 12])
def zvS:AC:=(.seq (.block 1 (.seq (rr [jm 13 1,jm 14 6,jv 15 (.bin .shr (.t 13) (.t 14)),jv 16 (.bin .and (.t 15) (jn 1)),jv 17 (.bin .eql (.t 16) (jn 1))]) zsn)) zm2)
def QO:AC:=(.seq (.seq (rr [jm 8 6,jm 9 0,jv 10 (.bin .lss (.t 8) (.t 9))]) zvE) zvS)
def zg8:AC:=(.seq (.reg [] [jm 22 5,jm 4 22] [.home 5 4]) .ret)
def zqc:AC:=(.block 0 (.loop QO))
def zrp:AC:=(.seq (.seq (rr [jv 6 (.mov (jn 0))]) zqc) zg8)
def zsU:AC:=(.seq (.reg [.clr [7]] [jx 7 (.lit i0 0 []),jm 5 7] [.home 7 5]) zrp)
def A64:AC:=(.seq (rr [jv 4 (.mov (.k (.sl .nl .s 0 [])))]) zsU)
def zxR:List An:=[⟨1,[.clr [7]],[],[],[.home 7 5]⟩,⟨6,[.clr [20,21]],[],[],[.home 21 5]⟩,⟨7,[],[],[],[.home 5 4]⟩]
theorem c64:cq Try.prog Try.f64 zxR=some A64:=by kernel_rfl
structure H64 (D:Den) (σ:Sig) (F:Nat):Prop where
 mk ::
abbrev R64 (r:LI):(Nat→V)→Prop:=RR Try.prog [.tmp 4] 0 false (eL r)
section
variable {r:LI}
def XU (F:Nat) (x1:Int) (x2:Int) (x8:Int) (c1:LI→Int→Option LI) (x15:LI):Option LI:=
 c1 x15 (w64 (x8 + 1))
theorem zcI (H:H64 D σ F) (x1:Int) (x2:Int) (x8:Int) (c1:LI→Int→Option LI) (Hc1:∀ (x7:LI) (x8:Int) (s:Nat→V),zr [(0,ji x1),(1,ji x2),(4,nI),(5,oI 5 [] (.of x7)),(6,ji x8)] s→c1 x7 x8=some r→Run D σ (R64 r) (.run QO [.lp QO,.bk 0,.sq zg8]) s) (x15:LI) (s:Nat→V) (hs:zr [(0,ji x1),(1,ji x2),(4,nI),(5,oI 5 [] (.of x15)),(6,ji x8)] s) (h:XU F x1 x2 x8 c1 x15=some r):Run D σ (R64 r) (.nrm [.bk 1,.sq zm2,.lp QO,.bk 0,.sq zg8]) s:=by
 unfold XU at h
 obtain ⟨h0,h1,h4,h5,h6⟩:=hs
 refine .nbk (.nsq (rg (gm h6 fun h11=>g1 11 (ji (w64 (x8 + 1))) h11 fun h12=>gm h12 fun h6=>gq (.nlp ?_))))
 exact Hc1 x15 (w64 (x8 + 1)) _ ⟨h0,h1,h4,h5,h6⟩ h
def vr (F:Nat) (x1:Int) (x2:Int) :Nat→LI→Int→Option LI
 | 0,_,_=>none
 | k + 1,x7,x8=>
   bif decide (x8 < x1) then
    (UD .i64 x2 x8).bind fun q13=>
    bif ((yx .i64 q13 1) == 1) then
     (uQ x7 [x8]).bind fun ap16=>
     XU F x1 x2 x8 (vr F x1 x2 k) ap16
    else
     XU F x1 x2 x8 (vr F x1 x2 k) x7
   else
    some x7
theorem zkh (H:H64 D σ F) (x1:Int) (x2:Int) :∀ (k:Nat) (x7:LI) (x8:Int) (s:Nat→V),zr [(0,ji x1),(1,ji x2),(4,nI),(5,oI 5 [] (.of x7)),(6,ji x8)] s→vr F x1 x2 k x7 x8=some r→Run D σ (R64 r) (.run QO [.lp QO,.bk 0,.sq zg8]) s:=by
 intro k
 induction k with
 | zero=>intro x7 x8 s _ h;exact nm h
 | succ k ih=>
   intro x7 x8 s hs h
   rw [vr] at h
   obtain ⟨h0,h1,h4,h5,h6⟩:=hs
   refine .seq (.seq (rg (gm h6 fun h8=>gm h0 fun h9=>g2 8 9 (jb (decide (x8 < x1))) h8 h9 fun h10=>gq (.nsq (zn h10 h (fun h=>?_) (fun h=>?_))))))
   · refine .skip (.nsq (.seq (.block (.seq (rg (gm h1 fun h13=>gm h6 fun h14=>?_))))))
     obtain ⟨q13,Eq13,h⟩:=zb h
     refine gv (ji q13) (Xh h13 h14 Eq13) fun h15=>g1 15 (ji (yx .i64 q13 1)) h15 fun h16=>g1 16 (jb ((yx .i64 q13 1) == 1)) h16 fun h17=>gq (.nsq (zn h17 h (fun h=>?_) (fun h=>?_)))
     · refine zw (z3 ?_)
       refine ez [(0,_),(1,_),(4,_),(5,_),(6,_),(20,_),(21,_)] ⟨za h0 rfl mi,za h1 rfl mi,za h4 rfl rfl,za h5 rfl (zq (r:=5) (p:=[]) rfl rfl),za h6 rfl mi,ze rfl,ze rfl⟩ ?_
       rintro s ⟨h0,h1,h4,h5,h6,h20,h21⟩
       refine gm h5 fun h18=>gm h6 fun h19=>xI [(19,ji x8)] [Enc.enc (x8:Int)] h19 rfl rfl h20 ?_
       obtain ⟨ap16,Eap16,h⟩:=zb h
       refine XR (q:=5) (p:=[]) (o:=.of (x7:LI)) (ys:=([x8]:LI)) (t2:=.at 20 []) (lo2:=0) h18 rfl rfl h21 (Z4 (o:=.of (x7:LI)) Eap16 trivial) (fun s19 ha19=>gm (rf (oI 21 [] (.of ap16))) fun h5=>yS (yu (r:=21) (x:=5) (v:=_) h5 rfl (fun s20 hz20=>?_)))
       refine ez [(0,ji x1),(1,ji x2),(4,nI),(5,oI 5 [] (.of ap16)),(6,ji x8)] ⟨hz20 0 _ _ (show s19 0=(ji x1) from yh ha19 h0 mi) mi,hz20 1 _ _ (show s19 1=(ji x2) from yh ha19 h1 mi) mi,hz20 4 _ nI (show s19 4=nI from yh ha19 h4 rfl) rfl,hz20 5 _ _ h5 (zq (r:=21) (p:=[]) rfl rfl),hz20 6 _ _ (show s19 6=(ji x8) from yh ha19 h6 mi) mi⟩ ?_
       rintro s ⟨h0,h1,h4,h5,h6⟩
       exact zcI H x1 x2 x8 (vr F x1 x2 k) ih ap16 _ ⟨h0,h1,h4,h5,h6⟩ h
     refine .skip ?_
     exact zcI H x1 x2 x8 (vr F x1 x2 k) ih x7 _ ⟨h0,h1,h4,h5,h6⟩ h
   refine .exit (.esq (.elp (.ebk (.nsq (.seq (rg (gm h5 fun h22=>gm h22 fun h4=>yS (yu (r:=5) (x:=4) (v:=_) h4 rfl (fun s21 hz21=>?_)))))))))
   refine ez [(4,oI 4 [] (.of x7))] (hz21 4 _ _ h4 (zq (r:=5) (p:=[]) rfl rfl)) ?_
   rintro s h4
   refine .nsq (.ret ?_)
   obtain rfl:=oi h
   exact rrA (zo h4) (wY (wy (o:=.of x7)) (xD rfl))
def XX (F:Nat) (x1:Int) (x2:Int):Option LI:=
 vr F x1 x2 F [] 0
theorem t64 (H:H64 D σ F) (x1:Int) (x2:Int) (s:Nat→V) (hs:zr [(0,ji x1),(1,ji x2)] s) (h:XX F x1 x2=some r):Run D σ (R64 r) (.run A64 []) s:=by
 unfold XX at h
 obtain ⟨h0,h1⟩:=hs
 refine .seq (rg (g0 nI fun h4=>gq (.nsq (.seq (zw (z3 ?_))))))
 refine ez [(0,_),(1,_),(4,_),(7,_)] ⟨za h0 rfl mi,za h1 rfl mi,za h4 rfl rfl,ze rfl⟩ ?_
 rintro s ⟨h0,h1,h4,h7⟩
 refine xI [] [] trivial rfl rfl h7 (gm (rf (oI 7 [] (.of []))) fun h5=>yS (yu (r:=7) (x:=5) (v:=_) h5 rfl (fun s2 hz2=>?_)))
 refine ez [(0,ji x1),(1,ji x2),(4,nI),(5,oI 5 [] (.of []))] ⟨hz2 0 _ _ h0 mi,hz2 1 _ _ h1 mi,hz2 4 _ _ h4 rfl,hz2 5 _ _ h5 (zq (r:=7) (p:=[]) rfl rfl)⟩ ?_
 rintro s ⟨h0,h1,h4,h5⟩
 refine .nsq (.seq (.seq (rg (g0 (ji 0) fun h6=>gq (.nsq (.block (.loop ?_)))))))
 exact zkh H x1 x2 F [] 0 _ ⟨h0,h1,h4,h5,h6⟩ h
end
def e64 (F:Nat):Ent:=ent 64 (fun (x:(Int×Int×Unit))=>XX F x.1 x.2.1) (fun (r:LI)=>(eL r)) 0 false []
abbrev C64 (D:List V→Option V) (F:Nat):Prop:=∀ (x0:Int) (x1:Int) r,XX F x0 x1=some r→D [Enc.enc x0,Enc.enc x1]=some (eL r)
theorem p64 {F:Nat}:C64 (e64 F).den F:=fun x0 x1 _ h=>zU (x0,x1,()) h
theorem o64 (hF:zG Try.prog D σ) (H:H64 D σ F):(e64 F).Ok Try.prog:=okZ (f:=64) Try.func64 fun ⟨x0,x1,_⟩ y hy=>cR hF Try.func64 c64 (t64 H x0 x1 _ ⟨rfl,rfl⟩ hy)
def zuu:AC:=(.cond (.t 9) .skip (.exit 0))
def zqR:AC:=(.cond (.t 17) (.seq (rr [jv 4 (.mov kt)]) .ret) .skip)
def zvr:AC:=(rr [jm 10 5,jv 11 (.bin .add (.t 10) (jn 1)),jm 5 11])
def ztQ:AC:=(.seq (.block 1 (.seq (rr [jm 12 0,jm 13 5,jv 14 (.idx (.t 12) (.t 13) 1),jl 15 14,jm 16 1,jv 17 (.bin .eql (.t 15) (.t 16))]) zqR)) zvr)
def zk3:AC:=(.seq (.seq (rr [jm 6 5,jm 7 0,jk 8 7,jv 9 (.bin .lss (.t 6) (.t 8))]) zuu) ztQ)
def zm5:AC:=(.seq (rr [jv 4 (.mov kf)]) .ret)
def zu7:AC:=(.block 0 (.loop zk3))
def zqy:AC:=(.seq (.seq (rr [jv 5 (.mov (jn 0))]) zu7) zm5)
def A53:AC:=(.seq (rr [jv 4 (.mov kf)]) zqy)
def zxw:List An:=[]
theorem c53:cq Try.prog Try.f53 zxw=some A53:=by kernel_rfl
structure H53 (D:Den) (σ:Sig) (F:Nat):Prop where
 mk ::
abbrev R53 (r:Bool):(Nat→V)→Prop:=RR Try.prog [.tmp 4] 0 false (Enc.enc (r:Bool))
section
variable {r:Bool}
def YM (F:Nat) (x1:LI) (x2:Int) :Nat→Int→Option Bool
 | 0,_=>none
 | k + 1,x4=>
   bif decide (x4 < (x1.length:Int)) then
    (idx x1 x4).bind fun v6=>
    bif (v6 == x2) then
     some true
    else
     (YM F x1 x2 k) (w64 (x4 + 1))
   else
    some false
theorem zkp (H:H53 D σ F) (x1:LI) (x2:Int) :∀ (k:Nat) (x4:Int) (s:Nat→V),zr [(0,eL x1),(1,ji x2),(4,jb false),(5,ji x4)] s→YM F x1 x2 k x4=some r→Run D σ (R53 r) (.run zk3 [.lp zk3,.bk 0,.sq zm5]) s:=by
 intro k
 induction k with
 | zero=>intro x4 s _ h;exact nm h
 | succ k ih=>
   intro x4 s hs h
   rw [YM] at h
   obtain ⟨h0,h1,h4,h5⟩:=hs
   refine .seq (.seq (rg (gm h5 fun h6=>gm h0 fun h7=>gl x1 h7 fun h8=>g2 6 8 (jb (decide (x4 < (x1.length:Int)))) h6 h8 fun h9=>gq (.nsq (zn h9 h (fun h=>?_) (fun h=>?_))))))
   · refine .skip (.nsq (.seq (.block (.seq (rg (gm h0 fun h12=>gm h5 fun h13=>?_))))))
     obtain ⟨v6,Ev6,h⟩:=zb h
     refine gv (.ref .sh 0 [] (ji v6)) (yn (t:=.sh) (lo:=0) (xs:=x1) h12 h13 Ev6 rfl rfl) fun h14=>g1 14 (ji v6) h14 fun h15=>gm h1 fun h16=>g2 15 16 (jb (v6 == x2)) h15 h16 fun h17=>gq (.nsq (zn h17 h (fun h=>?_) (fun h=>?_)))
     · refine .seq (rg (g0 (jb true) fun h4=>gq (.nsq (.ret ?_))))
       obtain rfl:=oi h
       exact rrA (zo h4) rfl
     refine .skip (.nbk (.nsq (rg (gm h5 fun h10=>g1 10 (ji (w64 (x4 + 1))) h10 fun h11=>gm h11 fun h5=>gq (.nlp ?_)))))
     exact ih (w64 (x4 + 1)) _ ⟨h0,h1,h4,h5⟩ h
   refine .exit (.esq (.elp (.ebk (.nsq (.seq (rg (g0 (jb false) fun h4=>gq (.nsq (.ret ?_)))))))))
   obtain rfl:=oi h
   exact rrA (zo h4) rfl
def Yz (F:Nat) (x1:LI) (x2:Int):Option Bool:=
 YM F x1 x2 F 0
theorem t53 (H:H53 D σ F) (x1:LI) (x2:Int) (s:Nat→V) (hs:zr [(0,eL x1),(1,ji x2)] s) (h:Yz F x1 x2=some r):Run D σ (R53 r) (.run A53 []) s:=by
 unfold Yz at h
 obtain ⟨h0,h1⟩:=hs
 refine .seq (rg (g0 (jb false) fun h4=>gq (.nsq (.seq (.seq (rg (g0 (ji 0) fun h5=>gq (.nsq (.block (.loop ?_))))))))))
 exact zkp H x1 x2 F 0 _ ⟨h0,h1,h4,h5⟩ h
end
def e53 (F:Nat):Ent:=ent 53 (fun (x:(LI×Int×Unit))=>Yz F x.1 x.2.1) (fun (r:Bool)=>(Enc.enc (r:Bool))) 0 false []
abbrev C53 (D:List V→Option V) (F:Nat):Prop:=∀ (x0:LI) (x1:Int) r,Yz F x0 x1=some r→D [Enc.enc x0,Enc.enc x1]=some (Enc.enc (r:Bool))
theorem p53 {F:Nat}:C53 (e53 F).den F:=fun x0 x1 _ h=>zU (x0,x1,()) h
theorem o53 (hF:zG Try.prog D σ) (H:H53 D σ F):(e53 F).Ok Try.prog:=okZ (f:=53) Try.func53 fun ⟨x0,x1,_⟩ y hy=>cR hF Try.func53 c53 (t53 H x0 x1 _ ⟨rfl,rfl⟩ hy)
def znj:AC:=(.cond (.t 31) (.seq (rr [jm 32 0,jm 4 32]) .ret) .skip)
def zng:AC:=(.seq (.reg [.clr [33,37,39,40,44]] [jy 33 (.lit i0 0 []),jm 34 0,jm 35 5,jv 36 (.slice (.t 34) none (some (.t 35)) 1),jy 37 (.appS .s (.t 33) (.t 36)),jm 38 1,jx 39 (.lit i0 1 [(0,0,.t 38)]),jy 40 (.appS .s (.t 37) (.t 39)),jm 41 0,jm 42 5,jv 43 (.slice (.t 41) (some (.t 42)) none 1),jx 44 (.appS .s (.t 40) (.t 43)),jm 4 44] [.home 44 4]) .ret)
def zne:AC:=(.cond (.t 17) .skip (.exit 0))
def zm9:AC:=(.block 1 (rr [jm 18 5,jv 19 (.bin .add (.t 18) (jn 1)),jm 5 19]))
def zaG:AC:=(.seq (.seq (rr [jm 6 5,jm 7 0,jk 8 7,jv 9 (.bin .lss (.t 6) (.t 8)),jm 10 9,jg 11 10 true (.mov (.t 0)),jg 12 10 true (.mov (.t 5)),jg 13 10 true (.idx (.t 11) (.t 12) 1),jg 14 10 true (.load .s (.t 13)),jg 15 10 true (.mov (.t 1)),jg 16 10 true (.bin .lss (.t 14) (.t 15)),jv 17 (.pick (.t 10) (.t 16) kf)]) zne) zm9)
def zgf:AC:=(.seq (.seq (rr [jm 20 5,jm 21 0,jk 22 21,jv 23 (.bin .lss (.t 20) (.t 22)),jm 24 23,jg 25 24 true (.mov (.t 0)),jg 26 24 true (.mov (.t 5)),jg 27 24 true (.idx (.t 25) (.t 26) 1),jg 28 24 true (.load .s (.t 27)),jg 29 24 true (.mov (.t 1)),jg 30 24 true (.bin .eql (.t 28) (.t 29)),jv 31 (.pick (.t 24) (.t 30) kf)]) znj) zng)
def ztP:AC:=(.seq (.block 0 (.loop zaG)) zgf)
def zqF:AC:=(.seq (rr [jv 5 (.mov (jn 0))]) ztP)
def A63:AC:=(.seq (rr [jv 4 (.mov (.k (.sl .nl .s 0 [])))]) zqF)
def zwv:List An:=[⟨6,[.clr [33,37,39,40,44]],[0,4,7],[4,7,11],[.home 44 4]⟩]
theorem c63:cq Try.prog Try.f63 zwv=some A63:=by kernel_rfl
structure H63 (D:Den) (σ:Sig) (F:Nat):Prop where
 mk ::
abbrev R63 (r:LI):(Nat→V)→Prop:=RR Try.prog [.tmp 4] 0 true (eL r)
section
variable {r:LI}
def XC (F:Nat) (x1:LI) (x2:Int) (x6:Int)  (x13:Bool):Option LI:=
 bif x13 then
  some x1
 else
  (sub x1 0 x6).bind fun sub14=>
  (uQ [] sub14).bind fun ap15=>
  (uQ ap15 [x2]).bind fun ap16=>
  (sub x1 x6 (x1.length:Int)).bind fun sub17=>
  (uQ ap16 sub17).bind fun ap18=>
  some ap18
theorem zdF (H:H63 D σ F) (x1:LI) (x2:Int) (x6:Int)  (x13:Bool) (s:Nat→V) (hs:zr [(0,eL x1),(1,ji x2),(4,nI),(5,ji x6),(31,jb x13)] s) (h:XC F x1 x2 x6  x13=some r):Run D σ (R63 r) (.nrm [.sq znj,.sq zng]) s:=by
 unfold XC at h
 obtain ⟨h0,h1,h4,h5,h31⟩:=hs
 refine .nsq (zn h31 h (fun h=>?_) (fun h=>?_))
 · refine .seq (rg (gm h0 fun h32=>gm h32 fun h4=>gq (.nsq (.ret ?_))))
   obtain rfl:=oi h
   exact rrA (zo h4) (ue (w6 (x:=(x1:LI))))
 refine .skip (.nsq (.seq (zw (z3 ?_))))
 refine ez [(0,_),(1,_),(4,_),(5,_),(33,_),(37,_),(39,_),(40,_),(44,_)] ⟨za h0 rfl me,za h1 rfl mi,za h4 rfl rfl,za h5 rfl mi,ze rfl,ze rfl,ze rfl,ze rfl,ze rfl⟩ ?_
 rintro s ⟨h0,h1,h4,h5,h33,h37,h39,h40,h44⟩
 refine zb0 [] [] trivial rfl rfl h33 (gm h0 fun h34=>gm h5 fun h35=>?_)
 obtain ⟨sub14,Esub14,h⟩:=zb h
 refine gv (eL sub14) (UV (xs:=x1) h34 (YQ) (YY h35) Esub14 rfl) fun h36=>?_
 obtain ⟨ap15,Eap15,h⟩:=zb h
 refine Jh (p:=[]) (xs:=[]) (ys:=(sub14:LI)) (t2:=.sh) (lo2:=0) rfl h36 rfl h37 rfl Eap15 (gm h1 fun h38=>xI [(38,ji x2)] [Enc.enc (x2:Int)] h38 rfl rfl h39 ?_)
 obtain ⟨ap16,Eap16,h⟩:=zb h
 refine Jh (p:=[]) (xs:=ap15) (ys:=([x2]:LI)) (t2:=.at 39 []) (lo2:=0) rfl rfl rfl h40 rfl Eap16 (gm h0 fun h41=>gm h5 fun h42=>?_)
 obtain ⟨sub17,Esub17,h⟩:=zb h
 refine gv (eL sub17) (UV (xs:=x1) h41 (YY h42) (YQ) Esub17 rfl) fun h43=>?_
 obtain ⟨ap18,Eap18,h⟩:=zb h
 refine Jh (p:=[]) (xs:=ap16) (ys:=(sub17:LI)) (t2:=.sh) (lo2:=0) rfl h43 rfl h44 rfl Eap18 (gm (rf (oI 44 [] (.of ap18))) fun h4=>yS (yu (r:=44) (x:=4) (v:=_) h4 rfl (fun s2 hz2=>?_)))
 refine ez [(4,oI 4 [] (.of ap18))] (hz2 4 _ _ h4 (zq (r:=44) (p:=[]) rfl rfl)) ?_
 rintro s h4
 refine .nsq (.ret ?_)
 obtain rfl:=oi h
 exact rrA (zo h4) (ue (wy (o:=.of ap18)))
def Xz (F:Nat) (x1:LI) (x2:Int) (x6:Int) (c1:Int→Option LI) (x11:Bool):Option LI:=
 bif x11 then
  c1 (w64 (x6 + 1))
 else
  bif decide (x6 < (x1.length:Int)) then
   (idx x1 x6).bind fun v19=>
   XC F x1 x2 x6 (v19 == x2)
  else
   XC F x1 x2 x6 false
theorem zc0 (H:H63 D σ F) (x1:LI) (x2:Int) (x6:Int) (c1:Int→Option LI) (Hc1:∀ (x6:Int) (s:Nat→V),zr [(0,eL x1),(1,ji x2),(4,nI),(5,ji x6)] s→c1 x6=some r→Run D σ (R63 r) (.run zaG [.lp zaG,.bk 0,.sq zgf]) s) (x11:Bool) (s:Nat→V) (hs:zr [(0,eL x1),(1,ji x2),(4,nI),(5,ji x6),(17,jb x11)] s) (h:Xz F x1 x2 x6 c1 x11=some r):Run D σ (R63 r) (.nrm [.sq zne,.sq zm9,.lp zaG,.bk 0,.sq zgf]) s:=by
 unfold Xz at h
 obtain ⟨h0,h1,h4,h5,h17⟩:=hs
 refine .nsq (zn h17 h (fun h=>?_) (fun h=>?_))
 · refine .skip (.nsq (.block (rg (gm h5 fun h18=>g1 18 (ji (w64 (x6 + 1))) h18 fun h19=>gm h19 fun h5=>gq (.nbk (.nlp ?_))))))
   exact Hc1 (w64 (x6 + 1)) _ ⟨h0,h1,h4,h5⟩ h
 refine .exit (.esq (.elp (.ebk (.nsq (.seq (.seq (rg (gm h5 fun h20=>gm h0 fun h21=>gl x1 h21 fun h22=>g2 20 22 (jb (decide (x6 < (x1.length:Int)))) h20 h22 fun h23=>gm h23 fun h24=>z4 h (fun hg5 h=>?_) (fun hg5 h=>?_)))))))))
 · refine zm (ct h24 hg5) (gm h0 fun h25=>zm (ct h24 hg5) (gm h5 fun h26=>?_))
   obtain ⟨v19,Ev19,h⟩:=zb h
   refine zm (ct h24 hg5) (gv (.ref .sh 0 [] (ji v19)) (yn (t:=.sh) (lo:=0) (xs:=x1) h25 h26 Ev19 rfl rfl) fun h27=>zm (ct h24 hg5) (g1 27 (ji v19) h27 fun h28=>zm (ct h24 hg5) (gm h1 fun h29=>zm (ct h24 hg5) (g2 28 29 (jb (v19 == x2)) h28 h29 fun h30=>g2 24 30 (jb (v19 == x2)) (ct h24 hg5) h30 fun h31=>gq ?_))))
   exact zdF H x1 x2 x6 (v19 == x2) _ ⟨h0,h1,h4,h5,h31⟩ h
 iterate 6 refine zR (ct h24 hg5) ?_
 refine g2 24 30 (jb false) (ct h24 hg5) (rf (.tup [])) fun h31=>gq ?_
 exact zdF H x1 x2 x6 false _ ⟨h0,h1,h4,h5,h31⟩ h
def ux (F:Nat) (x1:LI) (x2:Int) :Nat→Int→Option LI
 | 0,_=>none
 | k + 1,x6=>
   bif decide (x6 < (x1.length:Int)) then
    (idx x1 x6).bind fun v20=>
    Xz F x1 x2 x6 (ux F x1 x2 k) (decide (v20 < x2))
   else
    Xz F x1 x2 x6 (ux F x1 x2 k) false
theorem zjP (H:H63 D σ F) (x1:LI) (x2:Int) :∀ (k:Nat) (x6:Int) (s:Nat→V),zr [(0,eL x1),(1,ji x2),(4,nI),(5,ji x6)] s→ux F x1 x2 k x6=some r→Run D σ (R63 r) (.run zaG [.lp zaG,.bk 0,.sq zgf]) s:=by
 intro k
 induction k with
 | zero=>intro x6 s _ h;exact nm h
 | succ k ih=>
   intro x6 s hs h
   rw [ux] at h
   obtain ⟨h0,h1,h4,h5⟩:=hs
   refine .seq (.seq (rg (gm h5 fun h6=>gm h0 fun h7=>gl x1 h7 fun h8=>g2 6 8 (jb (decide (x6 < (x1.length:Int)))) h6 h8 fun h9=>gm h9 fun h10=>z4 h (fun hg5 h=>?_) (fun hg5 h=>?_))))
   · refine zm (ct h10 hg5) (gm h0 fun h11=>zm (ct h10 hg5) (gm h5 fun h12=>?_))
     obtain ⟨v20,Ev20,h⟩:=zb h
     refine zm (ct h10 hg5) (gv (.ref .sh 0 [] (ji v20)) (yn (t:=.sh) (lo:=0) (xs:=x1) h11 h12 Ev20 rfl rfl) fun h13=>zm (ct h10 hg5) (g1 13 (ji v20) h13 fun h14=>zm (ct h10 hg5) (gm h1 fun h15=>zm (ct h10 hg5) (g2 14 15 (jb (decide (v20 < x2))) h14 h15 fun h16=>g2 10 16 (jb (decide (v20 < x2))) (ct h10 hg5) h16 fun h17=>gq ?_))))
     exact zc0 H x1 x2 x6 (ux F x1 x2 k) ih (decide (v20 < x2)) _ ⟨h0,h1,h4,h5,h17⟩ h
   iterate 6 refine zR (ct h10 hg5) ?_
   refine g2 10 16 (jb false) (ct h10 hg5) (rf (.tup [])) fun h17=>gq ?_
   exact zc0 H x1 x2 x6 (ux F x1 x2 k) ih false _ ⟨h0,h1,h4,h5,h17⟩ h
def Wq (F:Nat) (x1:LI) (x2:Int):Option LI:=
 ux F x1 x2 F 0
theorem t63 (H:H63 D σ F) (x1:LI) (x2:Int) (s:Nat→V) (hs:zr [(0,eL x1),(1,ji x2)] s) (h:Wq F x1 x2=some r):Run D σ (R63 r) (.run A63 []) s:=by
 unfold Wq at h
 obtain ⟨h0,h1⟩:=hs
 refine .seq (rg (g0 nI fun h4=>gq (.nsq (.seq (rg (g0 (ji 0) fun h5=>gq (.nsq (.seq (.block (.loop ?_))))))))))
 exact zjP H x1 x2 F 0 _ ⟨h0,h1,h4,h5⟩ h
end
def e63 (F:Nat):Ent:=ent 63 (fun (x:(LI×Int×Unit))=>Wq F x.1 x.2.1) (fun (r:LI)=>(eL r)) 0 true []
abbrev C63 (D:List V→Option V) (F:Nat):Prop:=∀ (x0:LI) (x1:Int) r,Wq F x0 x1=some r→D [Enc.enc x0,Enc.enc x1]=some (eL r)
theorem p63 {F:Nat}:C63 (e63 F).den F:=fun x0 x1 _ h=>zU (x0,x1,()) h
theorem o63 (hF:zG Try.prog D σ) (H:H63 D σ F):(e63 F).Ok Try.prog:=okZ (f:=63) Try.func63 fun ⟨x0,x1,_⟩ y hy=>cR hF Try.func63 c63 (t63 H x0 x1 _ ⟨rfl,rfl⟩ hy)
def ztY:AC:=(.cond (.t 16) .skip (.exit 0))
def zu9:AC:=(.cond (.t 22) .skip (.exit 2))
def ziy:AC:=(.cond (.t 37) .skip (.exit 4))
def zpw:AC:=(.cond (.t 49) (.reg [.frz 7] [jm 50 7,jm 51 1,jm 52 9,jv 53 (.idx (.t 51) (.t 52) 1),jl 54 53,jx 55 (.call (jf 63) [.t 50,.t 54]),jm 7 55] []) .skip)
def ziT:AC:=(rr [jm 38 10,jv 39 (.bin .add (.t 38) (jn 1)),jm 10 39])
def zkn:AC:=(.seq (.block 5 (.seq (rr [jv 40 (.load (.ag [.s,.p]) (.t 3)),jm 41 7,jm 42 10,jv 43 (.idx (.t 41) (.t 42) 1),jl 44 43,jm 45 1,jm 46 9,jv 47 (.idx (.t 45) (.t 46) 1),jl 48 47,jx 49 (.call (jf 73) [.t 40,.t 44,.t 48])]) zpw)) ziT)
def Lh:AC:=(.seq (.seq (rr [jm 25 10,jm 26 7,jk 27 26,jv 28 (.bin .lss (.t 25) (.t 27)),jm 29 28,jg 30 29 true (.mov (.t 7)),jg 31 29 true (.mov (.t 1)),jg 32 29 true (.mov (.t 9)),jg 33 29 true (.idx (.t 31) (.t 32) 1),jg 34 29 true (.load .s (.t 33)),.mk (some 35) (some (29,true)) false (.call (jf 53) [.t 30,.t 34]),jg 36 29 true (.un .not (.t 35)),jv 37 (.pick (.t 29) (.t 36) kf)]) ziy) zkn)
def zuN:AC:=(.block 4 (.loop Lh))
def LH:AC:=(rr [jm 23 9,jv 24 (.bin .add (.t 23) (jn 1)),jm 9 24])
def zrL:AC:=(.seq (.block 3 (.seq (rr [jv 10 (.mov (jn 0))]) zuN)) LH)
def Ub:AC:=(.seq (.seq (rr [jm 19 9,jm 20 1,jk 21 20,jv 22 (.bin .lss (.t 19) (.t 21))]) zu9) zrL)
def zsw:AC:=(.block 2 (.loop Ub))
def Um:AC:=(rr [jm 17 8,jv 18 (.bin .add (.t 17) (jn 1)),jm 8 18])
def zvM:AC:=(.seq (.block 1 (.seq (rr [jv 9 (.mov (jn 0))]) zsw)) Um)
def Y8:AC:=(.seq (.seq (rr [jm 13 8,jm 14 1,jk 15 14,jv 16 (.bin .lss (.t 13) (.t 15))]) ztY) zvM)
def YL:AC:=(.seq (rr [jm 56 7,jm 6 56]) .ret)
def zoJ:AC:=(.block 0 (.loop Y8))
def zpt:AC:=(.seq (.seq (rr [jv 8 (.mov (jn 0))]) zoJ) YL)
def zpM:AC:=(.seq (.reg [.clr [12]] [jm 11 2,jx 12 (.lit i0 1 [(0,0,.t 11)]),jm 7 12] [.home 12 7,.frz 7]) zpt)
def A62:AC:=(.seq (.reg [.clr [3]] [jx 3 (.box (.t 0)),jv 6 (.mov (.k (.sl .nl .s 0 [])))] []) zpM)
def zxE:List An:=[⟨0,[.clr [3]],[],[],[]⟩,⟨1,[.clr [12]],[],[],[.home 12 7,.frz 7]⟩,⟨12,[.frz 7],[],[],[]⟩]
theorem c62:cq Try.prog Try.f62 zxE=some A62:=by kernel_rfl
structure H62 (D:Den) (σ:Sig) (F:Nat):Prop where
 c53:C53 (D 53) F
 g53:σ 53=some (0,false)
 c73:C73 (D 73) F
 g73:σ 73=some (0,false)
 c63:C63 (D 63) F
 g63:σ 63=some (0,true)
abbrev R62 (r:LI):(Nat→V)→Prop:=RR Try.prog [.tmp 6] 0 true (eL r)
section
variable {r:LI}
def Zn (F:Nat) (x2:LI) (x1:GR) (x130:Int) (x298:Int) (x354:Int) (c1:LI→Int→Option LI) (c10:LI→Int→Option LI) (c13:LI→Int→Option LI) (x376:LI):Option LI:=
 c13 x376 (w64 (x354 + 1))
theorem zeh (H:H62 D σ F) (x2:LI) (x1:GR) (x130:Int) (x298:Int) (x354:Int) (c1:LI→Int→Option LI) (Hc1:∀ (x129:LI) (x130:Int) (s:Nat→V),zr [(1,eL x2),(3,bG 3 x1),(6,nI),(7,eL x129),(8,ji x130)] s→c1 x129 x130=some r→Run D σ (R62 r) (.run Y8 [.lp Y8,.bk 0,.sq YL]) s) (c10:LI→Int→Option LI) (Hc10:∀ (x297:LI) (x298:Int) (s:Nat→V),zr [(1,eL x2),(3,bG 3 x1),(6,nI),(7,eL x297),(8,ji x130),(9,ji x298)] s→c10 x297 x298=some r→Run D σ (R62 r) (.run Ub [.lp Ub,.bk 2,.bk 1,.sq Um,.lp Y8,.bk 0,.sq YL]) s) (c13:LI→Int→Option LI) (Hc13:∀ (x353:LI) (x354:Int) (s:Nat→V),zr [(1,eL x2),(3,bG 3 x1),(6,nI),(7,eL x353),(8,ji x130),(9,ji x298),(10,ji x354)] s→c13 x353 x354=some r→Run D σ (R62 r) (.run Lh [.lp Lh,.bk 4,.bk 3,.sq LH,.lp Ub,.bk 2,.bk 1,.sq Um,.lp Y8,.bk 0,.sq YL]) s) (x376:LI) (s:Nat→V) (hs:zr [(1,eL x2),(3,bG 3 x1),(6,nI),(7,eL x376),(8,ji x130),(9,ji x298),(10,ji x354)] s) (h:Zn F x2 x1 x130 x298 x354 c1 c10 c13 x376=some r):Run D σ (R62 r) (.nrm [.bk 5,.sq ziT,.lp Lh,.bk 4,.bk 3,.sq LH,.lp Ub,.bk 2,.bk 1,.sq Um,.lp Y8,.bk 0,.sq YL]) s:=by
 unfold Zn at h
 obtain ⟨h1,h3,h6,h7,h8,h9,h10⟩:=hs
 refine .nbk (.nsq (rg (gm h10 fun h38=>g1 38 (ji (w64 (x354 + 1))) h38 fun h39=>gm h39 fun h10=>gq (.nlp ?_))))
 exact Hc13 x376 (w64 (x354 + 1)) _ ⟨h1,h3,h6,h7,h8,h9,h10⟩ h
def vV (F:Nat) (x2:LI) (x1:GR) (x353:LI) (x130:Int) (x298:Int) (x354:Int) (c1:LI→Int→Option LI) (c10:LI→Int→Option LI) (c13:LI→Int→Option LI) (x370:Bool):Option LI:=
 bif x370 then
  (idx x353 x354).bind fun v371=>
  (idx x2 x298).bind fun v372=>
  (Xj F x1 v371 v372).bind fun r373=>
  bif r373 then
   (idx x2 x298).bind fun v377=>
   (Wq F x353 v377).bind fun r378=>
   Zn F x2 x1 x130 x298 x354 c1 c10 c13 r378
  else
   Zn F x2 x1 x130 x298 x354 c1 c10 c13 x353
 else
  c10 x353 (w64 (x298 + 1))
theorem zdm (H:H62 D σ F) (x2:LI) (x1:GR) (x353:LI) (x130:Int) (x298:Int) (x354:Int) (c1:LI→Int→Option LI) (Hc1:∀ (x129:LI) (x130:Int) (s:Nat→V),zr [(1,eL x2),(3,bG 3 x1),(6,nI),(7,eL x129),(8,ji x130)] s→c1 x129 x130=some r→Run D σ (R62 r) (.run Y8 [.lp Y8,.bk 0,.sq YL]) s) (c10:LI→Int→Option LI) (Hc10:∀ (x297:LI) (x298:Int) (s:Nat→V),zr [(1,eL x2),(3,bG 3 x1),(6,nI),(7,eL x297),(8,ji x130),(9,ji x298)] s→c10 x297 x298=some r→Run D σ (R62 r) (.run Ub [.lp Ub,.bk 2,.bk 1,.sq Um,.lp Y8,.bk 0,.sq YL]) s) (c13:LI→Int→Option LI) (Hc13:∀ (x353:LI) (x354:Int) (s:Nat→V),zr [(1,eL x2),(3,bG 3 x1),(6,nI),(7,eL x353),(8,ji x130),(9,ji x298),(10,ji x354)] s→c13 x353 x354=some r→Run D σ (R62 r) (.run Lh [.lp Lh,.bk 4,.bk 3,.sq LH,.lp Ub,.bk 2,.bk 1,.sq Um,.lp Y8,.bk 0,.sq YL]) s) (x370:Bool) (s:Nat→V) (hs:zr [(1,eL x2),(3,bG 3 x1),(6,nI),(7,eL x353),(8,ji x130),(9,ji x298),(10,ji x354),(37,jb x370)] s) (h:vV F x2 x1 x353 x130 x298 x354 c1 c10 c13 x370=some r):Run D σ (R62 r) (.nrm [.sq ziy,.sq zkn,.lp Lh,.bk 4,.bk 3,.sq LH,.lp Ub,.bk 2,.bk 1,.sq Um,.lp Y8,.bk 0,.sq YL]) s:=by
 unfold vV at h
 obtain ⟨h1,h3,h6,h7,h8,h9,h10,h37⟩:=hs
 refine .nsq (zn h37 h (fun h=>?_) (fun h=>?_))
 · refine .skip (.nsq (.seq (.block (.seq (rg (g1 3 (gV x1) h3 fun h40=>gm h7 fun h41=>gm h10 fun h42=>?_))))))
   obtain ⟨v371,Ev371,h⟩:=zb h
   refine gv (.ref .sh 0 [] (ji v371)) (yn (t:=.sh) (lo:=0) (xs:=x353) h41 h42 Ev371 rfl rfl) fun h43=>g1 43 (ji v371) h43 fun h44=>gm h1 fun h45=>gm h9 fun h46=>?_
   obtain ⟨v372,Ev372,h⟩:=zb h
   refine gv (.ref .sh 0 [] (ji v372)) (yn (t:=.sh) (lo:=0) (xs:=x2) h45 h46 Ev372 rfl rfl) fun h47=>g1 47 (ji v372) h47 fun h48=>?_
   obtain ⟨r373,Er373,h⟩:=zb h
   refine gcF [Enc.enc (x1:GR),Enc.enc (v371:Int),Enc.enc (v372:Int)] (zf h40 rfl (Enc.erase_enc (x1:GR)) (zf h44 rfl rfl (zf h48 rfl rfl zA))) (H.c73 _ _ _ _ Er373) H.g73 (gq (.nsq (zn rfl h (fun h=>?_) (fun h=>?_))))
   · refine zw (Uy (x:=7) (v:=eL x353) [] (by exact h7) (Enc.toks_enc (x353:LI)) (fun s58 hz58=>?_))
     refine ez [(1,_),(3,_),(6,_),(7,_),(8,_),(9,_),(10,_)] ⟨hz58 1 _ _ h1 (wz _),hz58 3 _ _ h3 (wz _),hz58 6 _ _ h6 (wz _),hz58 7 _ _ h7 (wz _),hz58 8 _ _ h8 (wz _),hz58 9 _ _ h9 (wz _),hz58 10 _ _ h10 (wz _)⟩ ?_
     rintro s ⟨h1,h3,h6,h7,h8,h9,h10⟩
     refine gm h7 fun h50=>gm h1 fun h51=>gm h9 fun h52=>?_
     obtain ⟨v377,Ev377,h⟩:=zb h
     refine gv (.ref .sh 0 [] (ji v377)) (yn (t:=.sh) (lo:=0) (xs:=x2) h51 h52 Ev377 rfl rfl) fun h53=>g1 53 (ji v377) h53 fun h54=>?_
     obtain ⟨r378,Er378,h⟩:=zb h
     refine ZI (m:=0) (al:=true) (r:=eL r378) [eL x353,Enc.enc (v377:Int)] (zf h50 rfl (Enc.erase_enc (x353:LI)) (zf h54 rfl rfl zA)) (H.c63 _ _ _ Er378) H.g63 (ZP (xQ (v:=eL x353) h50 rfl rfl (xQ (v:=ji v377) h54 rfl rfl Z2))) rfl rfl rfl (gm (rf (eL r378)) fun h7=>gq ?_)
     exact zeh H x2 x1 x130 x298 x354 c1 Hc1 c10 Hc10 c13 Hc13 r378 _ ⟨h1,h3,h6,h7,h8,h9,h10⟩ h
   refine .skip ?_
   exact zeh H x2 x1 x130 x298 x354 c1 Hc1 c10 Hc10 c13 Hc13 x353 _ ⟨h1,h3,h6,h7,h8,h9,h10⟩ h
 refine .exit (.esq (.elp (.ebk (.nbk (.nsq (rg (gm h9 fun h23=>g1 23 (ji (w64 (x298 + 1))) h23 fun h24=>gm h24 fun h9=>gq (.nlp ?_))))))))
 exact Hc10 x353 (w64 (x298 + 1)) _ ⟨h1,h3,h6,h7,h8,h9⟩ h
def xl (F:Nat) (x2:LI) (x1:GR) (x130:Int) (x298:Int) (c1:LI→Int→Option LI) (c10:LI→Int→Option LI):Nat→LI→Int→Option LI
 | 0,_,_=>none
 | k + 1,x353,x354=>
   bif decide (x354 < (x353.length:Int)) then
    (idx x2 x298).bind fun v379=>
    (Yz F x353 v379).bind fun r380=>
    vV F x2 x1 x353 x130 x298 x354 c1 c10 (xl F x2 x1 x130 x298 c1 c10 k) (!r380)
   else
    vV F x2 x1 x353 x130 x298 x354 c1 c10 (xl F x2 x1 x130 x298 c1 c10 k) false
theorem ziP (H:H62 D σ F) (x2:LI) (x1:GR) (x130:Int) (x298:Int) (c1:LI→Int→Option LI) (Hc1:∀ (x129:LI) (x130:Int) (s:Nat→V),zr [(1,eL x2),(3,bG 3 x1),(6,nI),(7,eL x129),(8,ji x130)] s→c1 x129 x130=some r→Run D σ (R62 r) (.run Y8 [.lp Y8,.bk 0,.sq YL]) s) (c10:LI→Int→Option LI) (Hc10:∀ (x297:LI) (x298:Int) (s:Nat→V),zr [(1,eL x2),(3,bG 3 x1),(6,nI),(7,eL x297),(8,ji x130),(9,ji x298)] s→c10 x297 x298=some r→Run D σ (R62 r) (.run Ub [.lp Ub,.bk 2,.bk 1,.sq Um,.lp Y8,.bk 0,.sq YL]) s):∀ (k:Nat) (x353:LI) (x354:Int) (s:Nat→V),zr [(1,eL x2),(3,bG 3 x1),(6,nI),(7,eL x353),(8,ji x130),(9,ji x298),(10,ji x354)] s→xl F x2 x1 x130 x298 c1 c10 k x353 x354=some r→Run D σ (R62 r) (.run Lh [.lp Lh,.bk 4,.bk 3,.sq LH,.lp Ub,.bk 2,.bk 1,.sq Um,.lp Y8,.bk 0,.sq YL]) s:=by
 intro k
 induction k with
 | zero=>intro x353 x354 s _ h;exact nm h
 | succ k ih=>
   intro x353 x354 s hs h
   rw [xl] at h
   obtain ⟨h1,h3,h6,h7,h8,h9,h10⟩:=hs
   refine .seq (.seq (rg (gm h10 fun h25=>gm h7 fun h26=>gl x353 h26 fun h27=>g2 25 27 (jb (decide (x354 < (x353.length:Int)))) h25 h27 fun h28=>gm h28 fun h29=>z4 h (fun hg5 h=>?_) (fun hg5 h=>?_))))
   · refine zm (ct h29 hg5) (gm h7 fun h30=>zm (ct h29 hg5) (gm h1 fun h31=>zm (ct h29 hg5) (gm h9 fun h32=>?_)))
     obtain ⟨v379,Ev379,h⟩:=zb h
     refine zm (ct h29 hg5) (gv (.ref .sh 0 [] (ji v379)) (yn (t:=.sh) (lo:=0) (xs:=x2) h31 h32 Ev379 rfl rfl) fun h33=>zm (ct h29 hg5) (g1 33 (ji v379) h33 fun h34=>?_))
     obtain ⟨r380,Er380,h⟩:=zb h
     refine zm (ct h29 hg5) (gcF [eL x353,Enc.enc (v379:Int)] (zf h30 rfl (Enc.erase_enc (x353:LI)) (zf h34 rfl rfl zA)) (H.c53 _ _ _ Er380) H.g53 (zm (ct h29 hg5) (g1 35 (jb (!r380)) (rf (jb r380)) fun h36=>g2 29 36 (jb (!r380)) (ct h29 hg5) h36 fun h37=>gq ?_)))
     exact zdm H x2 x1 x353 x130 x298 x354 c1 Hc1 c10 Hc10 (xl F x2 x1 x130 x298 c1 c10 k) ih (!r380) _ ⟨h1,h3,h6,h7,h8,h9,h10,h37⟩ h
   iterate 7 refine zR (ct h29 hg5) ?_
   refine g2 29 36 (jb false) (ct h29 hg5) (rf (.tup [])) fun h37=>gq ?_
   exact zdm H x2 x1 x353 x130 x298 x354 c1 Hc1 c10 Hc10 (xl F x2 x1 x130 x298 c1 c10 k) ih false _ ⟨h1,h3,h6,h7,h8,h9,h10,h37⟩ h
def wM (F:Nat) (x2:LI) (x1:GR) (x130:Int) (c1:LI→Int→Option LI):Nat→LI→Int→Option LI
 | 0,_,_=>none
 | k + 1,x297,x298=>
   bif decide (x298 < (x2.length:Int)) then
    xl F x2 x1 x130 x298 c1 (wM F x2 x1 x130 c1 k) F x297 0
   else
    c1 x297 (w64 (x130 + 1))
theorem ziC (H:H62 D σ F) (x2:LI) (x1:GR) (x130:Int) (c1:LI→Int→Option LI) (Hc1:∀ (x129:LI) (x130:Int) (s:Nat→V),zr [(1,eL x2),(3,bG 3 x1),(6,nI),(7,eL x129),(8,ji x130)] s→c1 x129 x130=some r→Run D σ (R62 r) (.run Y8 [.lp Y8,.bk 0,.sq YL]) s):∀ (k:Nat) (x297:LI) (x298:Int) (s:Nat→V),zr [(1,eL x2),(3,bG 3 x1),(6,nI),(7,eL x297),(8,ji x130),(9,ji x298)] s→wM F x2 x1 x130 c1 k x297 x298=some r→Run D σ (R62 r) (.run Ub [.lp Ub,.bk 2,.bk 1,.sq Um,.lp Y8,.bk 0,.sq YL]) s:=by
 intro k
 induction k with
 | zero=>intro x297 x298 s _ h;exact nm h
 | succ k ih=>
   intro x297 x298 s hs h
   rw [wM] at h
   obtain ⟨h1,h3,h6,h7,h8,h9⟩:=hs
   refine .seq (.seq (rg (gm h9 fun h19=>gm h1 fun h20=>gl x2 h20 fun h21=>g2 19 21 (jb (decide (x298 < (x2.length:Int)))) h19 h21 fun h22=>gq (.nsq (zn h22 h (fun h=>?_) (fun h=>?_))))))
   · refine .skip (.nsq (.seq (.block (.seq (rg (g0 (ji 0) fun h10=>gq (.nsq (.block (.loop ?_)))))))))
     exact ziP H x2 x1 x130 x298 c1 Hc1 (wM F x2 x1 x130 c1 k) ih F x297 0 _ ⟨h1,h3,h6,h7,h8,h9,h10⟩ h
   refine .exit (.esq (.elp (.ebk (.nbk (.nsq (rg (gm h8 fun h17=>g1 17 (ji (w64 (x130 + 1))) h17 fun h18=>gm h18 fun h8=>gq (.nlp ?_))))))))
   exact Hc1 x297 (w64 (x130 + 1)) _ ⟨h1,h3,h6,h7,h8⟩ h
def vq (F:Nat) (x2:LI) (x1:GR) :Nat→LI→Int→Option LI
 | 0,_,_=>none
 | k + 1,x129,x130=>
   bif decide (x130 < (x2.length:Int)) then
    wM F x2 x1 x130 (vq F x2 x1 k) F x129 0
   else
    some x129
theorem zim (H:H62 D σ F) (x2:LI) (x1:GR) :∀ (k:Nat) (x129:LI) (x130:Int) (s:Nat→V),zr [(1,eL x2),(3,bG 3 x1),(6,nI),(7,eL x129),(8,ji x130)] s→vq F x2 x1 k x129 x130=some r→Run D σ (R62 r) (.run Y8 [.lp Y8,.bk 0,.sq YL]) s:=by
 intro k
 induction k with
 | zero=>intro x129 x130 s _ h;exact nm h
 | succ k ih=>
   intro x129 x130 s hs h
   rw [vq] at h
   obtain ⟨h1,h3,h6,h7,h8⟩:=hs
   refine .seq (.seq (rg (gm h8 fun h13=>gm h1 fun h14=>gl x2 h14 fun h15=>g2 13 15 (jb (decide (x130 < (x2.length:Int)))) h13 h15 fun h16=>gq (.nsq (zn h16 h (fun h=>?_) (fun h=>?_))))))
   · refine .skip (.nsq (.seq (.block (.seq (rg (g0 (ji 0) fun h9=>gq (.nsq (.block (.loop ?_)))))))))
     exact ziC H x2 x1 x130 (vq F x2 x1 k) ih F x129 0 _ ⟨h1,h3,h6,h7,h8,h9⟩ h
   refine .exit (.esq (.elp (.ebk (.nsq (.seq (rg (gm h7 fun h56=>gm h56 fun h6=>gq (.nsq (.ret ?_)))))))))
   obtain rfl:=oi h
   exact rrA (zo h6) (ue (w6 (x:=(x129:LI))))
def Xv (F:Nat) (x1:GR) (x2:LI) (x3:Int):Option LI:=
 vq F x2 x1 F [x3] 0
theorem t62 (H:H62 D σ F) (x1:GR) (x2:LI) (x3:Int) (s:Nat→V) (hs:zr [(0,gV x1),(1,eL x2),(2,ji x3)] s) (h:Xv F x1 x2 x3=some r):Run D σ (R62 r) (.run A62 []) s:=by
 unfold Xv at h
 obtain ⟨h0,h1,h2⟩:=hs
 refine .seq (zw (z3 ?_))
 refine ez [(0,_),(1,_),(2,_),(3,_)] ⟨za h0 rfl mIE,za h1 rfl me,za h2 rfl mi,ze rfl⟩ ?_
 rintro s ⟨h0,h1,h2,h3⟩
 refine xo (gV x1) (zF h0 rfl) h3 rfl (g0 nI fun h6=>gq (.nsq (.seq (zw (z3 ?_)))))
 refine ez [(1,_),(2,_),(3,_),(6,_),(12,_)] ⟨za h1 rfl me,za h2 rfl mi,za rfl rfl (zj rfl mIE),za h6 rfl rfl,ze rfl⟩ ?_
 rintro s ⟨h1,h2,h3,h6,h12⟩
 refine gm h2 fun h11=>xI [(11,ji x3)] [Enc.enc (x3:Int)] h11 rfl rfl h12 (gm (rf (oI 12 [] (.of [x3]))) fun h7=>yS (yu (r:=12) (x:=7) (v:=_) h7 rfl (fun s3 hz3=>Uy (x:=7) (v:=oI 7 [] (.of [x3])) [.at 7 []] (by exact (hz3 7 _ _ h7 (zq (r:=12) (p:=[]) rfl rfl))) z6 (fun s4 hz4=>?_))))
 refine ez [(1,eL x2),(3,bG 3 x1),(6,nI),(7,eL [x3])] ⟨hz4 1 (eL x2) (eL x2) (hz3 1 _ _ h1 me) zE,hz4 3 (bG 3 x1) (bG 3 x1) (hz3 3 _ _ h3 (zj rfl mIE)) (xC rfl zIE rfl),hz4 6 nI nI (hz3 6 _ nI h6 rfl) rfl,hz4 7 (oI 7 [] (.of [x3])) (eL [x3]) (hz3 7 _ _ h7 (zq (r:=12) (p:=[]) rfl rfl)) XO⟩ ?_
 rintro s ⟨h1,h3,h6,h7⟩
 refine .nsq (.seq (.seq (rg (g0 (ji 0) fun h8=>gq (.nsq (.block (.loop ?_)))))))
 exact zim H x2 x1 F [x3] 0 _ ⟨h1,h3,h6,h7,h8⟩ h
end
def e62 (F:Nat):Ent:=ent 62 (fun (x:(GR×LI×Int×Unit))=>Xv F x.1 x.2.1 x.2.2.1) (fun (r:LI)=>(eL r)) 0 true []
abbrev C62 (D:List V→Option V) (F:Nat):Prop:=∀ (x0:GR) (x1:LI) (x2:Int) r,Xv F x0 x1 x2=some r→D [Enc.enc x0,Enc.enc x1,Enc.enc x2]=some (eL r)
theorem p62 {F:Nat}:C62 (e62 F).den F:=fun x0 x1 x2 _ h=>zU (x0,x1,x2,()) h
theorem o62 (hF:zG Try.prog D σ) (H:H62 D σ F):(e62 F).Ok Try.prog:=okZ (f:=62) Try.func62 fun ⟨x0,x1,x2,_⟩ y hy=>cR hF Try.func62 c62 (t62 H x0 x1 x2 _ ⟨rfl,rfl,rfl⟩ hy)
def zrR:AC:=(.cond (.t 15) .skip (.exit 0))
def ztF:AC:=(.cond (.t 23) (.exit 1) .skip)
def zra:AC:=(.cond (.t 34) .skip (.exit 2))
def zpa:AC:=(rr [jm 35 9,jv 36 (.bin .add (.t 35) (jn 1)),jm 9 36])
def zoO:AC:=(.seq (.block 3 (.reg [.frz 6] [jm 37 6,jm 38 8,jm 39 9,jv 40 (.idx (.t 38) (.t 39) 1),jl 41 40,jx 42 (.call (jf 63) [.t 37,.t 41]),jm 6 42] [])) zpa)
def zkS:AC:=(.seq (.seq (rr [jm 31 9,jm 32 8,jk 33 32,jv 34 (.bin .lss (.t 31) (.t 33))]) zra) zoO)
def zq6:AC:=(.block 2 (.loop zkS))
def zjp:AC:=(.reg [.clr [45,46]] [jm 43 5,jm 44 8,jx 45 (.lit (.sl .nl .s 0 []) 1 [(0,0,.t 44)]),jx 46 (.app .p (.t 43) (.t 45)),jm 5 46] [.home 46 5])
def zuR:AC:=(.seq (.seq (rr [jv 9 (.mov (jn 0))]) zq6) zjp)
def ztv:AC:=(.seq (rr [jv 24 (.load (.ag [.s,.p]) (.t 2)),jm 25 1,jm 26 1,jm 27 7,jv 28 (.idx (.t 26) (.t 27) 1),jl 29 28,jx 30 (.call (jf 62) [.t 24,.t 25,.t 29]),jm 8 30]) zuR)
def zjv:AC:=(rr [jm 16 7,jv 17 (.bin .add (.t 16) (jn 1)),jm 7 17])
def zvb:AC:=(.seq (.block 1 (.seq (.seq (rr [jm 18 6,jm 19 1,jm 20 7,jv 21 (.idx (.t 19) (.t 20) 1),jl 22 21,jx 23 (.call (jf 53) [.t 18,.t 22])]) ztF) ztv)) zjv)
def Q6:AC:=(.seq (.seq (rr [jm 12 7,jm 13 1,jk 14 13,jv 15 (.bin .lss (.t 12) (.t 14))]) zrR) zvb)
def zbX:AC:=(.seq (.reg [] [jm 47 5,jm 4 47] [.home 5 4]) .ret)
def zoz:AC:=(.block 0 (.loop Q6))
def zou:AC:=(.seq (.seq (.reg [] [jv 7 (.mov (jn 0))] [.frz 6]) zoz) zbX)
def zoB:AC:=(.seq (.reg [.clr [10,11]] [jx 10 (.lit (.sl .nl .s 0 []) 0 []),jx 11 (.lit i0 0 []),jm 5 10,jm 6 11] [.home 10 5,.home 11 6]) zou)
def A42:AC:=(.seq (.reg [.clr [2]] [jx 2 (.box (.t 0)),jv 4 (.mov (.k (.sl .nl .p 0 [])))] []) zoB)
def zxY:List An:=[⟨0,[.clr [2]],[],[],[]⟩,⟨1,[.clr [10,11]],[],[],[.home 10 5,.home 11 6]⟩,⟨2,[],[],[],[.frz 6]⟩,⟨10,[.frz 6],[],[],[]⟩,⟨11,[.clr [45,46]],[],[],[.home 46 5]⟩,⟨12,[],[],[],[.home 5 4]⟩]
theorem c42:cq Try.prog Try.f42 zxY=some A42:=by kernel_rfl
structure H42 (D:Den) (σ:Sig) (F:Nat):Prop where
 c53:C53 (D 53) F
 g53:σ 53=some (0,false)
 c62:C62 (D 62) F
 g62:σ 62=some (0,true)
 c63:C63 (D 63) F
 g63:σ 63=some (0,true)
abbrev R42 (r:(List LI)):(Nat→V)→Prop:=RR Try.prog [.tmp 4] 0 true (Enc.enc (r:(List LI)))
section
variable {r:(List LI)}
def uf (F:Nat) (x2:LI) (x1:GR) (x16:(List LI)) (x18:Int) (r35:LI) (c1:(List LI)→LI→Int→Option (List LI)):Nat→LI→Int→Option (List LI)
 | 0,_,_=>none
 | k + 1,x38,x39=>
   bif decide (x39 < (r35.length:Int)) then
    (idx r35 x39).bind fun v42=>
    (Wq F x38 v42).bind fun r43=>
    (uf F x2 x1 x16 x18 r35 c1 k) r43 (w64 (x39 + 1))
   else
    (uQ x16 [r35]).bind fun ap44=>
    c1 ap44 x38 (w64 (x18 + 1))
theorem zkJ (H:H42 D σ F) (x2:LI) (x1:GR) (x16:(List LI)) (x18:Int) (r35:LI) (c1:(List LI)→LI→Int→Option (List LI)) (Hc1:∀ (x16:(List LI)) (x17:LI) (x18:Int) (s:Nat→V),zr [(1,eL x2),(2,bG 2 x1),(4,.sl .nl (Enc.shp LI) 0 []),(5,zu (.at 5 []) (.of (x16:List LI))),(6,eL x17),(7,ji x18)] s→c1 x16 x17 x18=some r→Run D σ (R42 r) (.run Q6 [.lp Q6,.bk 0,.sq zbX]) s):∀ (k:Nat) (x38:LI) (x39:Int) (s:Nat→V),zr [(1,eL x2),(2,bG 2 x1),(4,.sl .nl (Enc.shp LI) 0 []),(5,zu (.at 5 []) (.of (x16:List LI))),(6,eL x38),(7,ji x18),(8,eL r35),(9,ji x39)] s→uf F x2 x1 x16 x18 r35 c1 k x38 x39=some r→Run D σ (R42 r) (.run zkS [.lp zkS,.bk 2,.sq zjp,.bk 1,.sq zjv,.lp Q6,.bk 0,.sq zbX]) s:=by
 intro k
 induction k with
 | zero=>intro x38 x39 s _ h;exact nm h
 | succ k ih=>
   intro x38 x39 s hs h
   rw [uf] at h
   obtain ⟨h1,h2,h4,h5,h6,h7,h8,h9⟩:=hs
   refine .seq (.seq (rg (gm h9 fun h31=>gm h8 fun h32=>gl r35 h32 fun h33=>g2 31 33 (jb (decide (x39 < (r35.length:Int)))) h31 h33 fun h34=>gq (.nsq (zn h34 h (fun h=>?_) (fun h=>?_))))))
   · refine .skip (.nsq (.seq (.block (zw (Uy (x:=6) (v:=eL x38) [] (by exact h6) (Enc.toks_enc (x38:LI)) (fun s20 hz20=>?_))))))
     refine ez [(1,_),(2,_),(4,_),(5,_),(6,_),(7,_),(8,_),(9,_)] ⟨hz20 1 _ _ h1 (wz _),hz20 2 _ _ h2 (wz _),hz20 4 _ _ h4 (wz _),hz20 5 _ _ h5 (wz _),hz20 6 _ _ h6 (wz _),hz20 7 _ _ h7 (wz _),hz20 8 _ _ h8 (wz _),hz20 9 _ _ h9 (wz _)⟩ ?_
     rintro s ⟨h1,h2,h4,h5,h6,h7,h8,h9⟩
     refine gm h6 fun h37=>gm h8 fun h38=>gm h9 fun h39=>?_
     obtain ⟨v42,Ev42,h⟩:=zb h
     refine gv (.ref .sh 0 [] (ji v42)) (yn (t:=.sh) (lo:=0) (xs:=r35) h38 h39 Ev42 rfl rfl) fun h40=>g1 40 (ji v42) h40 fun h41=>?_
     obtain ⟨r43,Er43,h⟩:=zb h
     refine ZI (m:=0) (al:=true) (r:=eL r43) [eL x38,Enc.enc (v42:Int)] (zf h37 rfl (Enc.erase_enc (x38:LI)) (zf h41 rfl rfl zA)) (H.c63 _ _ _ Er43) H.g63 (ZP (xQ (v:=eL x38) h37 rfl rfl (xQ (v:=ji v42) h41 rfl rfl Z2))) rfl rfl rfl (gm (rf (eL r43)) fun h6=>gq (.nbk (.nsq (rg (gm h9 fun h35=>g1 35 (ji (w64 (x39 + 1))) h35 fun h36=>gm h36 fun h9=>gz [(1,_),(2,_),(4,_),(5,_),(6,_),(7,_),(8,_),(9,_)] ⟨h1,h2,h4,h5,h6,h7,h8,h9⟩ ?_)))))
     rintro s ⟨h1,h2,h4,h5,h6,h7,h8,h9⟩
     refine .nlp ?_
     exact ih r43 (w64 (x39 + 1)) _ ⟨h1,h2,h4,h5,h6,h7,h8,h9⟩ h
   refine .exit (.esq (.elp (.ebk (.nsq (zw (z3 ?_))))))
   refine ez [(1,_),(2,_),(4,_),(5,_),(6,_),(7,_),(8,_),(45,_),(46,_)] ⟨za h1 rfl me,za h2 rfl (zj rfl mIE),za h4 rfl rfl,za h5 rfl (zq (r:=5) (p:=[]) rfl rfl),za h6 rfl me,za h7 rfl mi,za h8 rfl me,ze rfl,ze rfl⟩ ?_
   rintro s ⟨h1,h2,h4,h5,h6,h7,h8,h45,h46⟩
   refine gm h5 fun h43=>gm h8 fun h44=>xI [(44,eL r35)] [eL r35] h44 rfl rfl h45 ?_
   obtain ⟨ap44,Eap44,h⟩:=zb h
   refine XR (q:=5) (p:=[]) (o:=.of (x16:List LI)) (ys:=([r35]:List LI)) (t2:=.at 45 []) (lo2:=0) h43 rfl rfl h46 (Z4 (o:=.of (x16:List LI)) Eap44 trivial) (fun s22 ha22=>gm (rf (zu (.at 46 []) (.of (ap44:List LI)))) fun h5=>yS (yu (r:=46) (x:=5) (v:=_) h5 rfl (fun s23 hz23=>?_)))
   refine ez [(1,eL x2),(2,bG 2 x1),(4,.sl .nl (Enc.shp LI) 0 []),(5,zu (.at 5 []) (.of (ap44:List LI))),(6,eL x38),(7,ji x18)] ⟨hz23 1 _ _ (show s22 1=(eL x2) from yh ha22 h1 me) me,hz23 2 _ _ (show s22 2=(bG 2 x1) from yh ha22 h2 (zj rfl mIE)) (zj rfl mIE),hz23 4 _ (.sl .nl (Enc.shp LI) 0 []) (show s22 4=(.sl .nl (Enc.shp LI) 0 []) from yh ha22 h4 rfl) rfl,hz23 5 _ _ h5 (zq (r:=46) (p:=[]) rfl rfl),hz23 6 _ _ (show s22 6=(eL x38) from yh ha22 h6 me) me,hz23 7 _ _ (show s22 7=(ji x18) from yh ha22 h7 mi) mi⟩ ?_
   rintro s ⟨h1,h2,h4,h5,h6,h7⟩
   refine .nbk (.nsq (rg (gm h7 fun h16=>g1 16 (ji (w64 (x18 + 1))) h16 fun h17=>gm h17 fun h7=>gq (.nlp ?_))))
   exact Hc1 ap44 x38 (w64 (x18 + 1)) _ ⟨h1,h2,h4,h5,h6,h7⟩ h
def xY (F:Nat) (x2:LI) (x1:GR) :Nat→(List LI)→LI→Int→Option (List LI)
 | 0,_,_,_=>none
 | k + 1,x16,x17,x18=>
   bif decide (x18 < (x2.length:Int)) then
    (idx x2 x18).bind fun v32=>
    (Yz F x17 v32).bind fun r33=>
    bif r33 then
     (xY F x2 x1 k) x16 x17 (w64 (x18 + 1))
    else
     (idx x2 x18).bind fun v34=>
     (Xv F x1 x2 v34).bind fun r35=>
     uf F x2 x1 x16 x18 r35 (xY F x2 x1 k) F x17 0
   else
    some x16
theorem zix (H:H42 D σ F) (x2:LI) (x1:GR) :∀ (k:Nat) (x16:(List LI)) (x17:LI) (x18:Int) (s:Nat→V),zr [(1,eL x2),(2,bG 2 x1),(4,.sl .nl (Enc.shp LI) 0 []),(5,zu (.at 5 []) (.of (x16:List LI))),(6,eL x17),(7,ji x18)] s→xY F x2 x1 k x16 x17 x18=some r→Run D σ (R42 r) (.run Q6 [.lp Q6,.bk 0,.sq zbX]) s:=by
 intro k
 induction k with
 | zero=>intro x16 x17 x18 s _ h;exact nm h
 | succ k ih=>
   intro x16 x17 x18 s hs h
   rw [xY] at h
   obtain ⟨h1,h2,h4,h5,h6,h7⟩:=hs
   refine .seq (.seq (rg (gm h7 fun h12=>gm h1 fun h13=>gl x2 h13 fun h14=>g2 12 14 (jb (decide (x18 < (x2.length:Int)))) h12 h14 fun h15=>gq (.nsq (zn h15 h (fun h=>?_) (fun h=>?_))))))
   · refine .skip (.nsq (.seq (.block (.seq (.seq (rg (gm h6 fun h18=>gm h1 fun h19=>gm h7 fun h20=>?_)))))))
     obtain ⟨v32,Ev32,h⟩:=zb h
     refine gv (.ref .sh 0 [] (ji v32)) (yn (t:=.sh) (lo:=0) (xs:=x2) h19 h20 Ev32 rfl rfl) fun h21=>g1 21 (ji v32) h21 fun h22=>?_
     obtain ⟨r33,Er33,h⟩:=zb h
     refine gcF [eL x17,Enc.enc (v32:Int)] (zf h18 rfl (Enc.erase_enc (x17:LI)) (zf h22 rfl rfl zA)) (H.c53 _ _ _ Er33) H.g53 (gq (.nsq (zn rfl h (fun h=>?_) (fun h=>?_))))
     · refine .exit (.esq (.ebk (.nsq (rg (gm h7 fun h16=>g1 16 (ji (w64 (x18 + 1))) h16 fun h17=>gm h17 fun h7=>gq (.nlp ?_))))))
       exact ih x16 x17 (w64 (x18 + 1)) _ ⟨h1,h2,h4,h5,h6,h7⟩ h
     refine .skip (.nsq (.seq (rg (g1 2 (gV x1) h2 fun h24=>gm h1 fun h25=>gm h1 fun h26=>gm h7 fun h27=>?_))))
     obtain ⟨v34,Ev34,h⟩:=zb h
     refine gv (.ref .sh 0 [] (ji v34)) (yn (t:=.sh) (lo:=0) (xs:=x2) h26 h27 Ev34 rfl rfl) fun h28=>g1 28 (ji v34) h28 fun h29=>?_
     obtain ⟨r35,Er35,h⟩:=zb h
     refine ZI (m:=0) (al:=true) (r:=eL r35) [Enc.enc (x1:GR),eL x2,Enc.enc (v34:Int)] (zf h24 rfl (Enc.erase_enc (x1:GR)) (zf h25 rfl (Enc.erase_enc (x2:LI)) (zf h29 rfl rfl zA))) (H.c62 _ _ _ _ Er35) H.g62 (ZP (xQ (v:=gV x1) h24 rfl rfl (xQ (v:=eL x2) h25 rfl rfl (xQ (v:=ji v34) h29 rfl rfl Z2)))) rfl rfl rfl (gm (rf (eL r35)) fun h8=>gq (.nsq (.seq (.seq (rg (g0 (ji 0) fun h9=>gq (.nsq (.block (.loop ?_)))))))))
     exact zkJ H x2 x1 x16 x18 r35 (xY F x2 x1 k) ih F x17 0 _ ⟨h1,h2,h4,h5,h6,h7,h8,h9⟩ h
   refine .exit (.esq (.elp (.ebk (.nsq (.seq (rg (gm h5 fun h47=>gm h47 fun h4=>yS (yu (r:=5) (x:=4) (v:=_) h4 rfl (fun s24 hz24=>?_)))))))))
   refine ez [(4,zu (.at 4 []) (.of (x16:List LI)))] (hz24 4 _ _ h4 (zq (r:=5) (p:=[]) rfl rfl)) ?_
   rintro s h4
   refine .nsq (.ret ?_)
   obtain rfl:=oi h
   exact rrA (zo h4) (ue (wy (o:=.of x16)))
def uI (F:Nat) (x1:GR) (x2:LI):Option (List LI):=
 xY F x2 x1 F [] [] 0
theorem t42 (H:H42 D σ F) (x1:GR) (x2:LI) (s:Nat→V) (hs:zr [(0,gV x1),(1,eL x2)] s) (h:uI F x1 x2=some r):Run D σ (R42 r) (.run A42 []) s:=by
 unfold uI at h
 obtain ⟨h0,h1⟩:=hs
 refine .seq (zw (z3 ?_))
 refine ez [(0,_),(1,_),(2,_)] ⟨za h0 rfl mIE,za h1 rfl me,ze rfl⟩ ?_
 rintro s ⟨h0,h1,h2⟩
 refine xo (gV x1) (zF h0 rfl) h2 rfl (g0 (.sl .nl (Enc.shp LI) 0 []) fun h4=>gq (.nsq (.seq (zw (z3 ?_)))))
 refine ez [(1,_),(2,_),(4,_),(10,_),(11,_)] ⟨za h1 rfl me,za rfl rfl (zj rfl mIE),za h4 rfl rfl,ze rfl,ze rfl⟩ ?_
 rintro s ⟨h1,h2,h4,h10,h11⟩
 refine xI [] [] trivial rfl rfl h10 (xI [] [] trivial rfl rfl h11 (gm (rf (zu (.at 10 []) (.of ([]:List LI)))) fun h5=>gm (rf (oI 11 [] (.of []))) fun h6=>yS (yu (r:=10) (x:=5) (v:=_) h5 rfl (fun s3 hz3=>yu (r:=11) (x:=6) (v:=_) (by exact (hz3 6 _ _ h6 (zq (r:=11) (p:=[]) rfl rfl))) rfl (fun s4 hz4=>?_)))))
 refine ez [(1,eL x2),(2,bG 2 x1),(4,.sl .nl (Enc.shp LI) 0 []),(5,zu (.at 5 []) (.of ([]:List LI))),(6,oI 6 [] (.of []))] ⟨hz4 1 _ _ (hz3 1 _ _ h1 me) me,hz4 2 _ _ (hz3 2 _ _ h2 (zj rfl mIE)) (zj rfl mIE),hz4 4 _ (.sl .nl (Enc.shp LI) 0 []) (hz3 4 _ (.sl .nl (Enc.shp LI) 0 []) h4 rfl) rfl,hz4 5 _ _ (hz3 5 _ _ h5 (zq (r:=10) (p:=[]) rfl rfl)) (zq (r:=5) (p:=[]) rfl rfl),hz4 6 _ _ (hz3 6 _ _ h6 (zq (r:=11) (p:=[]) rfl rfl)) (zq (r:=11) (p:=[]) rfl rfl)⟩ ?_
 rintro s ⟨h1,h2,h4,h5,h6⟩
 refine .nsq (.seq (.seq (rg (g0 (ji 0) fun h7=>yS (Uy (x:=6) (v:=oI 6 [] (.of [])) [.at 6 []] (by exact h6) z6 (fun s5 hz5=>?_))))))
 refine ez [(1,eL x2),(2,bG 2 x1),(4,.sl .nl (Enc.shp LI) 0 []),(5,zu (.at 5 []) (.of ([]:List LI))),(6,_),(7,ji 0)] ⟨hz5 1 _ _ h1 zE,hz5 2 _ _ h2 (xC rfl zIE rfl),hz5 4 _ _ h4 rfl,hz5 5 _ _ h5 (NN rfl rfl),hz5 6 _ _ h6 XO,hz5 7 _ _ h7 rfl⟩ ?_
 rintro s ⟨h1,h2,h4,h5,h6,h7⟩
 refine .nsq (.block (.loop ?_))
 exact zix H x2 x1 F [] [] 0 _ ⟨h1,h2,h4,h5,h6,h7⟩ h
end
def e42 (F:Nat):Ent:=ent 42 (fun (x:(GR×LI×Unit))=>uI F x.1 x.2.1) (fun (r:(List LI))=>(Enc.enc (r:(List LI)))) 0 true []
abbrev C42 (D:List V→Option V) (F:Nat):Prop:=∀ (x0:GR) (x1:LI) r,uI F x0 x1=some r→D [Enc.enc x0,Enc.enc x1]=some (Enc.enc (r:(List LI)))
theorem p42 {F:Nat}:C42 (e42 F).den F:=fun x0 x1 _ h=>zU (x0,x1,()) h
theorem o42 (hF:zG Try.prog D σ) (H:H42 D σ F):(e42 F).Ok Try.prog:=okZ (f:=42) Try.func42 fun ⟨x0,x1,_⟩ y hy=>cR hF Try.func42 c42 (t42 H x0 x1 _ ⟨rfl,rfl⟩ hy)
def zt1:AC:=(.cond (.t 8) .skip (.exit 0))
def zt5:AC:=(rr [jm 9 4,jv 10 (.bin .add (.t 9) (jn 1)),jm 4 10])
def zvF:AC:=(.seq (.block 1 (rr [jm 11 3,jm 12 0,jm 13 4,jv 14 (.idx (.t 12) (.t 13) 1),jl 15 14,jv 16 (.bin .shl (jn 1) (.t 15)),jv 17 (.bin .add (.t 11) (.t 16)),jm 3 17])) zt5)
def zjM:AC:=(.seq (.seq (rr [jm 5 4,jm 6 0,jk 7 6,jv 8 (.bin .lss (.t 5) (.t 7))]) zt1) zvF)
def zmA:AC:=(.seq (rr [jm 18 3,jm 2 18]) .ret)
def zsX:AC:=(.block 0 (.loop zjM))
def zqd:AC:=(.seq (.seq (rr [jv 4 (.mov (jn 0))]) zsX) zmA)
def zs2:AC:=(.seq (rr [jv 3 (.mov (jn 0))]) zqd)
def A78:AC:=(.seq (rr [jv 2 (.mov (jn 0))]) zs2)
def zwR:List An:=[]
theorem c78:cq Try.prog Try.f78 zwR=some A78:=by kernel_rfl
structure H78 (D:Den) (σ:Sig) (F:Nat):Prop where
 mk ::
abbrev R78 (r:Int):(Nat→V)→Prop:=RR Try.prog [.tmp 2] 0 false (Enc.enc (r:Int))
section
variable {r:Int}
def uX (F:Nat) (x1:LI) :Nat→Int→Int→Option Int
 | 0,_,_=>none
 | k + 1,x4,x5=>
   bif decide (x5 < (x1.length:Int)) then
    (idx x1 x5).bind fun v8=>
    (Xr .i64 1 v8).bind fun q9=>
    (uX F x1 k) (w64 (x4 + q9)) (w64 (x5 + 1))
   else
    some x4
theorem zjE (H:H78 D σ F) (x1:LI) :∀ (k:Nat) (x4:Int) (x5:Int) (s:Nat→V),zr [(0,eL x1),(2,ji 0),(3,ji x4),(4,ji x5)] s→uX F x1 k x4 x5=some r→Run D σ (R78 r) (.run zjM [.lp zjM,.bk 0,.sq zmA]) s:=by
 intro k
 induction k with
 | zero=>intro x4 x5 s _ h;exact nm h
 | succ k ih=>
   intro x4 x5 s hs h
   rw [uX] at h
   obtain ⟨h0,h2,h3,h4⟩:=hs
   refine .seq (.seq (rg (gm h4 fun h5=>gm h0 fun h6=>gl x1 h6 fun h7=>g2 5 7 (jb (decide (x5 < (x1.length:Int)))) h5 h7 fun h8=>gq (.nsq (zn h8 h (fun h=>?_) (fun h=>?_))))))
   · refine .skip (.nsq (.seq (.block (rg (gm h3 fun h11=>gm h0 fun h12=>gm h4 fun h13=>?_)))))
     obtain ⟨v8,Ev8,h⟩:=zb h
     refine gv (.ref .sh 0 [] (ji v8)) (yn (t:=.sh) (lo:=0) (xs:=x1) h12 h13 Ev8 rfl rfl) fun h14=>g1 14 (ji v8) h14 fun h15=>?_
     obtain ⟨q9,Eq9,h⟩:=zb h
     refine gv (ji q9) (uo rfl h15 Eq9) fun h16=>g2 11 16 (ji (w64 (x4 + q9))) h11 h16 fun h17=>gm h17 fun h3=>gq (.nbk (.nsq (rg (gm h4 fun h9=>g1 9 (ji (w64 (x5 + 1))) h9 fun h10=>gm h10 fun h4=>gq (.nlp ?_)))))
     exact ih (w64 (x4 + q9)) (w64 (x5 + 1)) _ ⟨h0,h2,h3,h4⟩ h
   refine .exit (.esq (.elp (.ebk (.nsq (.seq (rg (gm h3 fun h18=>gm h18 fun h2=>gq (.nsq (.ret ?_)))))))))
   obtain rfl:=oi h
   exact rrA (zo h2) rfl
def XW (F:Nat) (x1:LI):Option Int:=
 uX F x1 F 0 0
theorem t78 (H:H78 D σ F) (x1:LI) (s:Nat→V) (hs:zr [(0,eL x1)] s) (h:XW F x1=some r):Run D σ (R78 r) (.run A78 []) s:=by
 unfold XW at h
 have h0:=hs
 refine .seq (rg (g0 (ji 0) fun h2=>gq (.nsq (.seq (rg (g0 (ji 0) fun h3=>gq (.nsq (.seq (.seq (rg (g0 (ji 0) fun h4=>gq (.nsq (.block (.loop ?_))))))))))))))
 exact zjE H x1 F 0 0 _ ⟨h0,h2,h3,h4⟩ h
end
def e78 (F:Nat):Ent:=ent 78 (fun (x:(LI×Unit))=>XW F x.1) (fun (r:Int)=>(Enc.enc (r:Int))) 0 false []
abbrev C78 (D:List V→Option V) (F:Nat):Prop:=∀ (x0:LI) r,XW F x0=some r→D [Enc.enc x0]=some (Enc.enc (r:Int))
theorem p78 {F:Nat}:C78 (e78 F).den F:=fun x0 _ h=>zU (x0,()) h
theorem o78 (hF:zG Try.prog D σ) (H:H78 D σ F):(e78 F).Ok Try.prog:=okZ (f:=78) Try.func78 fun ⟨x0,_⟩ y hy=>cR hF Try.func78 c78 (t78 H x0 _ rfl hy)
def zvP:AC:=(.cond (.t 15) .skip (.exit 0))
def zmS:AC:=(.cond (.t 33) .skip (.exit 2))
def zov:AC:=(rr [jm 34 8,jv 35 (.bin .add (.t 34) (jn 1)),jm 8 35])
def zkf:AC:=(.seq (.block 3 (rr [jm 36 7,jm 37 3,jm 38 6,jm 39 8,jv 40 (.idx (.t 38) (.t 39) 1),jv 41 (.load .p (.t 40)),jx 42 (.call (jf 78) [.t 41]),jv 43 (.idx (.t 37) (.t 42) 1),jl 44 43,jx 45 (.call (jf 31) [.t 36,.t 44]),jm 7 45])) zov)
def zau:AC:=(.seq (.seq (rr [jm 25 8,jm 26 6,jk 27 26,jv 28 (.bin .lss (.t 25) (.t 27)),jm 29 28,jg 30 29 true (.mov (.t 6)),jg 31 29 true (.len (.t 30)),jg 32 29 true (.bin .gtr (.t 31) (jn 1)),jv 33 (.pick (.t 29) (.t 32) kf)]) zmS) zkf)
def zvu:AC:=(.block 2 (.loop zau))
def zo4:AC:=(.cond (.t 54) .skip (.exit 4))
def znU:AC:=(rr [jm 55 9,jv 56 (.bin .add (.t 55) (jn 1)),jm 9 56])
def zpx:AC:=(.seq (.block 5 (rr [jm 57 7,jm 58 3,jm 59 4,jm 60 5,jm 61 9,jv 62 (.idx (.t 60) (.t 61) 1),jl 63 62,jv 64 (.bin .shl (jn 1) (.t 63)),jv 65 (.bin .sub (.t 59) (.t 64)),jv 66 (.idx (.t 58) (.t 65) 1),jl 67 66,jv 68 (.bin .add (jn 1) (.t 67)),jx 69 (.call (jf 48) [.t 57,.t 68]),jm 7 69])) znU)
def zfg:AC:=(.seq (.seq (rr [jm 51 9,jm 52 5,jk 53 52,jv 54 (.bin .lss (.t 51) (.t 53))]) zo4) zpx)
def zoK:AC:=(.block 4 (.loop zfg))
def znW:AC:=(.seq (rr [jv 9 (.mov (jn 0))]) zoK)
def zpS:AC:=(.cond (.t 48) (.seq (rr [jv 49 (.fld (.t 1) 0 0),jl 50 49,jm 7 50]) znW) .skip)
def ze8:AC:=(.reg [.clr [72,73]] [jm 70 3,jm 71 7,jx 72 (.lit i0 1 [(0,0,.t 71)]),jx 73 (.app .s (.t 70) (.t 72)),jm 3 73] [.home 73 3])
def zb2:AC:=(.seq (.seq (rr [jm 46 6,jk 47 46,jv 48 (.bin .eql (.t 47) (jn 1))]) zpS) ze8)
def zvx:AC:=(.seq (.seq (rr [jv 8 (.mov (jn 0))]) zvu) zb2)
def zs1:AC:=(.seq (rr [jv 7 (.mov (jn 0))]) zvx)
def zqo:AC:=(.seq (rr [jv 22 (.load (.ag [.s,.p]) (.t 1)),jm 23 5,jx 24 (.call (jf 42) [.t 22,.t 23]),jm 6 24]) zs1)
def L0:AC:=(rr [jm 16 4,jv 17 (.bin .add (.t 16) (jn 1)),jm 4 17])
def zqn:AC:=(.seq (.block 1 (.seq (rr [jv 18 (.fld (.t 1) 0 0),jl 19 18,jm 20 4,jx 21 (.call (jf 64) [.t 19,.t 20]),jm 5 21]) zqo)) L0)
def Wc:AC:=(.seq (.seq (rr [jm 11 4,jv 12 (.fld (.t 1) 0 0),jl 13 12,jv 14 (.bin .shl (jn 1) (.t 13)),jv 15 (.bin .lss (.t 11) (.t 14))]) zvP) zqn)
def WY:AC:=(.seq (.reg [] [jm 74 3,jm 2 74] [.home 3 2]) .ret)
def zon:AC:=(.block 0 (.loop Wc))
def znS:AC:=(.seq (.seq (rr [jv 4 (.mov (jn 1))]) zon) WY)
def zno:AC:=(.seq (.reg [.clr [10]] [jx 10 (.lit i0 1 [(0,0,jn 0)]),jm 3 10] [.home 10 3]) znS)
def A58:AC:=(.seq (.reg [.clr [1]] [jx 1 (.box (.t 0)),jv 2 (.mov (.k (.sl .nl .s 0 [])))] []) zno)
def zwU:List An:=[⟨0,[.clr [1]],[],[],[]⟩,⟨1,[.clr [10]],[],[],[.home 10 3]⟩,⟨18,[.clr [72,73]],[],[],[.home 73 3]⟩,⟨19,[],[],[],[.home 3 2]⟩]
theorem c58:cq Try.prog Try.f58 zwU=some A58:=by kernel_rfl
structure H58 (D:Den) (σ:Sig) (F:Nat):Prop where
 c64:C64 (D 64) F
 g64:σ 64=some (0,false)
 c42:C42 (D 42) F
 g42:σ 42=some (0,true)
 c78:C78 (D 78) F
 g78:σ 78=some (0,false)
 c31:C31 (D 31) F
 g31:σ 31=some (0,false)
 c48:C48 (D 48) F
 g48:σ 48=some (0,false)
abbrev R58 (r:LI):(Nat→V)→Prop:=RR Try.prog [.tmp 2] 0 false (eL r)
section
variable {r:LI}
def wh (F:Nat) (x1:GR) (x52:LI) (x53:Int) (c1:LI→Int→Option LI) (x138:Int):Option LI:=
 (uQ x52 [x138]).bind fun ap139=>
 c1 ap139 (w64 (x53 + 1))
theorem zcM (H:H58 D σ F) (x1:GR) (x52:LI) (x53:Int) (c1:LI→Int→Option LI) (Hc1:∀ (x52:LI) (x53:Int) (s:Nat→V),zr [(1,bG 1 x1),(2,nI),(3,oI 3 [] (.of x52)),(4,ji x53)] s→c1 x52 x53=some r→Run D σ (R58 r) (.run Wc [.lp Wc,.bk 0,.sq WY]) s) (x138:Int) (s:Nat→V) (hs:zr [(1,bG 1 x1),(2,nI),(3,oI 3 [] (.of x52)),(4,ji x53),(7,ji x138)] s) (h:wh F x1 x52 x53 c1 x138=some r):Run D σ (R58 r) (.nrm [.sq ze8,.bk 1,.sq L0,.lp Wc,.bk 0,.sq WY]) s:=by
 unfold wh at h
 obtain ⟨h1,h2,h3,h4,h7⟩:=hs
 refine .nsq (zw (z3 ?_))
 refine ez [(1,_),(2,_),(3,_),(4,_),(7,_),(72,_),(73,_)] ⟨za h1 rfl (zj rfl mIE),za h2 rfl rfl,za h3 rfl (zq (r:=3) (p:=[]) rfl rfl),za h4 rfl mi,za h7 rfl mi,ze rfl,ze rfl⟩ ?_
 rintro s ⟨h1,h2,h3,h4,h7,h72,h73⟩
 refine gm h3 fun h70=>gm h7 fun h71=>xI [(71,ji x138)] [Enc.enc (x138:Int)] h71 rfl rfl h72 ?_
 obtain ⟨ap139,Eap139,h⟩:=zb h
 refine XR (q:=3) (p:=[]) (o:=.of (x52:LI)) (ys:=([x138]:LI)) (t2:=.at 72 []) (lo2:=0) h70 rfl rfl h73 (Z4 (o:=.of (x52:LI)) Eap139 trivial) (fun s11 ha11=>gm (rf (oI 73 [] (.of ap139))) fun h3=>yS (yu (r:=73) (x:=3) (v:=_) h3 rfl (fun s12 hz12=>?_)))
 refine ez [(1,bG 1 x1),(2,nI),(3,oI 3 [] (.of ap139)),(4,ji x53)] ⟨hz12 1 _ _ (show s11 1=(bG 1 x1) from yh ha11 h1 (zj rfl mIE)) (zj rfl mIE),hz12 2 _ nI (show s11 2=nI from yh ha11 h2 rfl) rfl,hz12 3 _ _ h3 (zq (r:=73) (p:=[]) rfl rfl),hz12 4 _ _ (show s11 4=(ji x53) from yh ha11 h4 mi) mi⟩ ?_
 rintro s ⟨h1,h2,h3,h4⟩
 refine .nbk (.nsq (rg (gm h4 fun h16=>g1 16 (ji (w64 (x53 + 1))) h16 fun h17=>gm h17 fun h4=>gq (.nlp ?_))))
 exact Hc1 ap139 (w64 (x53 + 1)) _ ⟨h1,h2,h3,h4⟩ h
def wP (F:Nat) (x1:GR) (x52:LI) (x53:Int) (r105:LI) (c1:LI→Int→Option LI):Nat→Int→Int→Option LI
 | 0,_,_=>none
 | k + 1,x144,x145=>
   bif decide (x145 < (r105.length:Int)) then
    (idx r105 x145).bind fun v150=>
    (Xr .i64 1 v150).bind fun q151=>
    (idx x52 (w64 (x53 - q151))).bind fun v152=>
    (uO F x144 (w64 (1 + v152))).bind fun r153=>
    (wP F x1 x52 x53 r105 c1 k) r153 (w64 (x145 + 1))
   else
    wh F x1 x52 x53 c1 x144
theorem zjQ (H:H58 D σ F) (x1:GR) (x52:LI) (x53:Int) (r105:LI) (c1:LI→Int→Option LI) (Hc1:∀ (x52:LI) (x53:Int) (s:Nat→V),zr [(1,bG 1 x1),(2,nI),(3,oI 3 [] (.of x52)),(4,ji x53)] s→c1 x52 x53=some r→Run D σ (R58 r) (.run Wc [.lp Wc,.bk 0,.sq WY]) s):∀ (k:Nat) (x144:Int) (x145:Int) (s:Nat→V),zr [(1,bG 1 x1),(2,nI),(3,oI 3 [] (.of x52)),(4,ji x53),(5,eL r105),(7,ji x144),(9,ji x145)] s→wP F x1 x52 x53 r105 c1 k x144 x145=some r→Run D σ (R58 r) (.run zfg [.lp zfg,.bk 4,.sq ze8,.bk 1,.sq L0,.lp Wc,.bk 0,.sq WY]) s:=by
 intro k
 induction k with
 | zero=>intro x144 x145 s _ h;exact nm h
 | succ k ih=>
   intro x144 x145 s hs h
   rw [wP] at h
   obtain ⟨h1,h2,h3,h4,h5,h7,h9⟩:=hs
   refine .seq (.seq (rg (gm h9 fun h51=>gm h5 fun h52=>gl r105 h52 fun h53=>g2 51 53 (jb (decide (x145 < (r105.length:Int)))) h51 h53 fun h54=>gq (.nsq (zn h54 h (fun h=>?_) (fun h=>?_))))))
   · refine .skip (.nsq (.seq (.block (rg (gm h7 fun h57=>gm h3 fun h58=>gm h4 fun h59=>gm h5 fun h60=>gm h9 fun h61=>?_)))))
     obtain ⟨v150,Ev150,h⟩:=zb h
     refine gv (.ref .sh 0 [] (ji v150)) (yn (t:=.sh) (lo:=0) (xs:=r105) h60 h61 Ev150 rfl rfl) fun h62=>g1 62 (ji v150) h62 fun h63=>?_
     obtain ⟨q151,Eq151,h⟩:=zb h
     refine gv (ji q151) (uo rfl h63 Eq151) fun h64=>g2 59 64 (ji (w64 (x53 - q151))) h59 h64 fun h65=>?_
     obtain ⟨v152,Ev152,h⟩:=zb h
     refine gv (.ref (.at 3 []) ((w64 (x53 - q151)).toNat) [] (ji v152)) (xq (o:=.of x52) h58 h65 Ev152 rfl) fun h66=>g1 66 (ji v152) h66 fun h67=>g1 67 (ji (w64 (1 + v152))) h67 fun h68=>?_
     obtain ⟨r153,Er153,h⟩:=zb h
     refine gcF [Enc.enc (x144:Int),Enc.enc (w64 (1 + v152):Int)] (zf h57 rfl rfl (zf h68 rfl rfl zA)) (H.c48 _ _ _ Er153) H.g48 (gm (rf (ji r153)) fun h7=>gz [(1,_),(2,_),(3,_),(4,_),(5,_),(7,_),(9,_)] ⟨h1,h2,h3,h4,h5,h7,h9⟩ ?_)
     rintro s ⟨h1,h2,h3,h4,h5,h7,h9⟩
     refine .nbk (.nsq (rg (gm h9 fun h55=>g1 55 (ji (w64 (x145 + 1))) h55 fun h56=>gm h56 fun h9=>gq (.nlp ?_))))
     exact ih r153 (w64 (x145 + 1)) _ ⟨h1,h2,h3,h4,h5,h7,h9⟩ h
   refine .exit (.esq (.elp (.ebk ?_)))
   exact zcM H x1 x52 x53 c1 Hc1 x144 _ ⟨h1,h2,h3,h4,h7⟩ h
def uj (F:Nat) (x1:GR) (x52:LI) (x53:Int) (r105:LI) (r106:(List LI)) (x112:Int) (x113:Int) (c1:LI→Int→Option LI) (c8:Int→Int→Option LI) (x119:Bool):Option LI:=
 bif x119 then
  (idx r106 x113).bind fun v120=>
  (XW F v120).bind fun r121=>
  (idx x52 r121).bind fun v122=>
  (Xt F x112 v122).bind fun r123=>
  c8 r123 (w64 (x113 + 1))
 else
  bif ((r106.length:Int) == 1) then
   wP F x1 x52 x53 r105 c1 F x1.1 0
  else
   wh F x1 x52 x53 c1 x112
theorem zc6 (H:H58 D σ F) (x1:GR) (x52:LI) (x53:Int) (r105:LI) (r106:(List LI)) (x112:Int) (x113:Int) (c1:LI→Int→Option LI) (Hc1:∀ (x52:LI) (x53:Int) (s:Nat→V),zr [(1,bG 1 x1),(2,nI),(3,oI 3 [] (.of x52)),(4,ji x53)] s→c1 x52 x53=some r→Run D σ (R58 r) (.run Wc [.lp Wc,.bk 0,.sq WY]) s) (c8:Int→Int→Option LI) (Hc8:∀ (x112:Int) (x113:Int) (s:Nat→V),zr [(1,bG 1 x1),(2,nI),(3,oI 3 [] (.of x52)),(4,ji x53),(5,eL r105),(6,Enc.enc (r106:List LI)),(7,ji x112),(8,ji x113)] s→c8 x112 x113=some r→Run D σ (R58 r) (.run zau [.lp zau,.bk 2,.sq zb2,.bk 1,.sq L0,.lp Wc,.bk 0,.sq WY]) s) (x119:Bool) (s:Nat→V) (hs:zr [(1,bG 1 x1),(2,nI),(3,oI 3 [] (.of x52)),(4,ji x53),(5,eL r105),(6,Enc.enc (r106:List LI)),(7,ji x112),(8,ji x113),(33,jb x119)] s) (h:uj F x1 x52 x53 r105 r106 x112 x113 c1 c8 x119=some r):Run D σ (R58 r) (.nrm [.sq zmS,.sq zkf,.lp zau,.bk 2,.sq zb2,.bk 1,.sq L0,.lp Wc,.bk 0,.sq WY]) s:=by
 unfold uj at h
 obtain ⟨h1,h2,h3,h4,h5,h6,h7,h8,h33⟩:=hs
 refine .nsq (zn h33 h (fun h=>?_) (fun h=>?_))
 · refine .skip (.nsq (.seq (.block (rg (gm h7 fun h36=>gm h3 fun h37=>gm h6 fun h38=>gm h8 fun h39=>?_)))))
   obtain ⟨v120,Ev120,h⟩:=zb h
   refine gv (.ref .sh 0 [] (eL v120)) (yn (t:=.sh) (lo:=0) (xs:=r106) h38 h39 Ev120 rfl rfl) fun h40=>g1 40 (eL v120) h40 fun h41=>?_
   obtain ⟨r121,Er121,h⟩:=zb h
   refine gcF [eL v120] (zf h41 rfl (Enc.erase_enc (v120:LI)) zA) (H.c78 _ _ Er121) H.g78 ?_
   obtain ⟨v122,Ev122,h⟩:=zb h
   refine gv (.ref (.at 3 []) r121.toNat [] (ji v122)) (xq (o:=.of x52) h37 rfl Ev122 rfl) fun h43=>g1 43 (ji v122) h43 fun h44=>?_
   obtain ⟨r123,Er123,h⟩:=zb h
   refine gcF [Enc.enc (x112:Int),Enc.enc (v122:Int)] (zf h36 rfl rfl (zf h44 rfl rfl zA)) (H.c31 _ _ _ Er123) H.g31 (gm (rf (ji r123)) fun h7=>gq (.nbk (.nsq (rg (gm h8 fun h34=>g1 34 (ji (w64 (x113 + 1))) h34 fun h35=>gm h35 fun h8=>gz [(1,_),(2,_),(3,_),(4,_),(5,_),(6,_),(7,_),(8,_)] ⟨h1,h2,h3,h4,h5,h6,h7,h8⟩ ?_)))))
   rintro s ⟨h1,h2,h3,h4,h5,h6,h7,h8⟩
   refine .nlp ?_
   exact Hc8 r123 (w64 (x113 + 1)) _ ⟨h1,h2,h3,h4,h5,h6,h7,h8⟩ h
 refine .exit (.esq (.elp (.ebk (.nsq (.seq (.seq (rg (gm h6 fun h46=>gl r106 h46 fun h47=>g1 47 (jb ((r106.length:Int) == 1)) h47 fun h48=>gq (.nsq (zn h48 h (fun h=>?_) (fun h=>?_)))))))))))
 · refine .seq (rg (g1 1 (.ref (.bx 1) 0 [0] (ji x1.1)) h1 fun h49=>g1 49 (ji x1.1) h49 fun h50=>gm h50 fun h7=>gq (.nsq (.seq (rg (g0 (ji 0) fun h9=>gq (.nsq (.block (.loop ?_)))))))))
   exact zjQ H x1 x52 x53 r105 c1 Hc1 F x1.1 0 _ ⟨h1,h2,h3,h4,h5,h7,h9⟩ h
 refine .skip ?_
 exact zcM H x1 x52 x53 c1 Hc1 x112 _ ⟨h1,h2,h3,h4,h7⟩ h
def xh (F:Nat) (x1:GR) (x52:LI) (x53:Int) (r105:LI) (r106:(List LI)) (c1:LI→Int→Option LI):Nat→Int→Int→Option LI
 | 0,_,_=>none
 | k + 1,x112,x113=>
   bif decide (x113 < (r106.length:Int)) then
    uj F x1 x52 x53 r105 r106 x112 x113 c1 (xh F x1 x52 x53 r105 r106 c1 k) (decide ((r106.length:Int) > 1))
   else
    uj F x1 x52 x53 r105 r106 x112 x113 c1 (xh F x1 x52 x53 r105 r106 c1 k) false
theorem zkx (H:H58 D σ F) (x1:GR) (x52:LI) (x53:Int) (r105:LI) (r106:(List LI)) (c1:LI→Int→Option LI) (Hc1:∀ (x52:LI) (x53:Int) (s:Nat→V),zr [(1,bG 1 x1),(2,nI),(3,oI 3 [] (.of x52)),(4,ji x53)] s→c1 x52 x53=some r→Run D σ (R58 r) (.run Wc [.lp Wc,.bk 0,.sq WY]) s):∀ (k:Nat) (x112:Int) (x113:Int) (s:Nat→V),zr [(1,bG 1 x1),(2,nI),(3,oI 3 [] (.of x52)),(4,ji x53),(5,eL r105),(6,Enc.enc (r106:List LI)),(7,ji x112),(8,ji x113)] s→xh F x1 x52 x53 r105 r106 c1 k x112 x113=some r→Run D σ (R58 r) (.run zau [.lp zau,.bk 2,.sq zb2,.bk 1,.sq L0,.lp Wc,.bk 0,.sq WY]) s:=by
 intro k
 induction k with
 | zero=>intro x112 x113 s _ h;exact nm h
 | succ k ih=>
   intro x112 x113 s hs h
   rw [xh] at h
   obtain ⟨h1,h2,h3,h4,h5,h6,h7,h8⟩:=hs
   refine .seq (.seq (rg (gm h8 fun h25=>gm h6 fun h26=>gl r106 h26 fun h27=>g2 25 27 (jb (decide (x113 < (r106.length:Int)))) h25 h27 fun h28=>gm h28 fun h29=>z4 h (fun hg5 h=>?_) (fun hg5 h=>?_))))
   · refine zm (ct h29 hg5) (gm h6 fun h30=>zm (ct h29 hg5) (gl r106 h30 fun h31=>zm (ct h29 hg5) (g1 31 (jb (decide ((r106.length:Int) > 1))) h31 fun h32=>g2 29 32 (jb (decide ((r106.length:Int) > 1))) (ct h29 hg5) h32 fun h33=>gq ?_)))
     exact zc6 H x1 x52 x53 r105 r106 x112 x113 c1 Hc1 (xh F x1 x52 x53 r105 r106 c1 k) ih (decide ((r106.length:Int) > 1)) _ ⟨h1,h2,h3,h4,h5,h6,h7,h8,h33⟩ h
   iterate 3 refine zR (ct h29 hg5) ?_
   refine g2 29 32 (jb false) (ct h29 hg5) (rf (.tup [])) fun h33=>gq ?_
   exact zc6 H x1 x52 x53 r105 r106 x112 x113 c1 Hc1 (xh F x1 x52 x53 r105 r106 c1 k) ih false _ ⟨h1,h2,h3,h4,h5,h6,h7,h8,h33⟩ h
def wk (F:Nat) (x1:GR) :Nat→LI→Int→Option LI
 | 0,_,_=>none
 | k + 1,x52,x53=>
   (Xr .i64 1 x1.1).bind fun q104=>
   bif decide (x53 < q104) then
    (XX F x1.1 x53).bind fun r105=>
    (uI F x1 r105).bind fun r106=>
    xh F x1 x52 x53 r105 r106 (wk F x1 k) F 0 0
   else
    some x52
theorem zjs (H:H58 D σ F) (x1:GR) :∀ (k:Nat) (x52:LI) (x53:Int) (s:Nat→V),zr [(1,bG 1 x1),(2,nI),(3,oI 3 [] (.of x52)),(4,ji x53)] s→wk F x1 k x52 x53=some r→Run D σ (R58 r) (.run Wc [.lp Wc,.bk 0,.sq WY]) s:=by
 intro k
 induction k with
 | zero=>intro x52 x53 s _ h;exact nm h
 | succ k ih=>
   intro x52 x53 s hs h
   rw [wk] at h
   obtain ⟨h1,h2,h3,h4⟩:=hs
   refine .seq (.seq (rg (gm h4 fun h11=>g1 1 (.ref (.bx 1) 0 [0] (ji x1.1)) h1 fun h12=>g1 12 (ji x1.1) h12 fun h13=>?_)))
   obtain ⟨q104,Eq104,h⟩:=zb h
   refine gv (ji q104) (uo rfl h13 Eq104) fun h14=>g2 11 14 (jb (decide (x53 < q104))) h11 h14 fun h15=>gq (.nsq (zn h15 h (fun h=>?_) (fun h=>?_)))
   · refine .skip (.nsq (.seq (.block (.seq (rg (g1 1 (.ref (.bx 1) 0 [0] (ji x1.1)) h1 fun h18=>g1 18 (ji x1.1) h18 fun h19=>gm h4 fun h20=>?_))))))
     obtain ⟨r105,Er105,h⟩:=zb h
     refine gcF [Enc.enc (x1.1:Int),Enc.enc (x53:Int)] (zf h19 rfl rfl (zf h20 rfl rfl zA)) (H.c64 _ _ _ Er105) H.g64 (gm (rf (eL r105)) fun h5=>gq (.nsq (.seq (rg (g1 1 (gV x1) h1 fun h22=>gm h5 fun h23=>?_)))))
     obtain ⟨r106,Er106,h⟩:=zb h
     refine ZI (m:=0) (al:=true) (r:=Enc.enc (r106:(List LI))) [Enc.enc (x1:GR),eL r105] (zf h22 rfl (Enc.erase_enc (x1:GR)) (zf h23 rfl (Enc.erase_enc (r105:LI)) zA)) (H.c42 _ _ _ Er106) H.g42 (ZP (xQ (v:=gV x1) h22 rfl rfl (xQ (v:=eL r105) h23 rfl rfl Z2))) rfl rfl rfl (gm (rf (Enc.enc (r106:List LI))) fun h6=>gq (.nsq (.seq (rg (g0 (ji 0) fun h7=>gq (.nsq (.seq (.seq (rg (g0 (ji 0) fun h8=>gq (.nsq (.block (.loop ?_)))))))))))))
     exact zkx H x1 x52 x53 r105 r106 (wk F x1 k) ih F 0 0 _ ⟨h1,h2,h3,h4,h5,h6,h7,h8⟩ h
   refine .exit (.esq (.elp (.ebk (.nsq (.seq (rg (gm h3 fun h74=>gm h74 fun h2=>yS (yu (r:=3) (x:=2) (v:=_) h2 rfl (fun s13 hz13=>?_)))))))))
   refine ez [(2,oI 2 [] (.of x52))] (hz13 2 _ _ h2 (zq (r:=3) (p:=[]) rfl rfl)) ?_
   rintro s h2
   refine .nsq (.ret ?_)
   obtain rfl:=oi h
   exact rrA (zo h2) (wY (wy (o:=.of x52)) (xD rfl))
def Zo (F:Nat) (x1:GR):Option LI:=
 wk F x1 F [0] 1
theorem t58 (H:H58 D σ F) (x1:GR) (s:Nat→V) (hs:zr [(0,gV x1)] s) (h:Zo F x1=some r):Run D σ (R58 r) (.run A58 []) s:=by
 unfold Zo at h
 have h0:=hs
 refine .seq (zw (z3 ?_))
 refine ez [(0,_),(1,_)] ⟨za h0 rfl mIE,ze rfl⟩ ?_
 rintro s ⟨h0,h1⟩
 refine xo (gV x1) (zF h0 rfl) h1 rfl (g0 nI fun h2=>gq (.nsq (.seq (zw (z3 ?_)))))
 refine ez [(1,_),(2,_),(10,_)] ⟨za rfl rfl (zj rfl mIE),za h2 rfl rfl,ze rfl⟩ ?_
 rintro s ⟨h1,h2,h10⟩
 refine xI [] [Enc.enc (0:Int)] trivial rfl rfl h10 (gm (rf (oI 10 [] (.of [0]))) fun h3=>yS (yu (r:=10) (x:=3) (v:=_) h3 rfl (fun s3 hz3=>?_)))
 refine ez [(1,bG 1 x1),(2,nI),(3,oI 3 [] (.of [0]))] ⟨hz3 1 _ _ h1 (zj rfl mIE),hz3 2 _ _ h2 rfl,hz3 3 _ _ h3 (zq (r:=10) (p:=[]) rfl rfl)⟩ ?_
 rintro s ⟨h1,h2,h3⟩
 refine .nsq (.seq (.seq (rg (g0 (ji 1) fun h4=>gq (.nsq (.block (.loop ?_)))))))
 exact zjs H x1 F [0] 1 _ ⟨h1,h2,h3,h4⟩ h
end
def e58 (F:Nat):Ent:=ent 58 (fun (x:(GR×Unit))=>Zo F x.1) (fun (r:LI)=>(eL r)) 0 false []
abbrev C58 (D:List V→Option V) (F:Nat):Prop:=∀ (x0:GR) r,Zo F x0=some r→D [Enc.enc x0]=some (eL r)
theorem p58 {F:Nat}:C58 (e58 F).den F:=fun x0 _ h=>zU (x0,()) h
theorem o58 (hF:zG Try.prog D σ) (H:H58 D σ F):(e58 F).Ok Try.prog:=okZ (f:=58) Try.func58 fun ⟨x0,_⟩ y hy=>cR hF Try.func58 c58 (t58 H x0 _ rfl hy)
def zrq:AC:=(.seq (rr [jv 3 (.fld (.t 1) 0 0),jl 4 3,jv 5 (.fld (.t 1) 0 0),jl 6 5,jv 7 (.bin .shl (jn 1) (.t 6)),jv 8 (.bin .sub (.t 7) (jn 1)),jx 9 (.call (jf 64) [.t 4,.t 8]),jm 2 9]) .ret)
def A43:AC:=(.seq (.reg [.clr [1]] [jx 1 (.box (.t 0)),jv 2 (.mov (.k (.sl .nl .s 0 [])))] []) zrq)
def zxN:List An:=[⟨0,[.clr [1]],[],[],[]⟩]
theorem c43:cq Try.prog Try.f43 zxN=some A43:=by kernel_rfl
structure H43 (D:Den) (σ:Sig) (F:Nat):Prop where
 c64:C64 (D 64) F
 g64:σ 64=some (0,false)
abbrev R43 (r:LI):(Nat→V)→Prop:=RR Try.prog [.tmp 2] 0 true (eL r)
section
variable {r:LI}
def Wg (F:Nat) (x1:GR):Option LI:=
 (Xr .i64 1 x1.1).bind fun q2=>
 (XX F x1.1 (w64 (q2 - 1))).bind fun r3=>
 some r3
theorem t43 (H:H43 D σ F) (x1:GR) (s:Nat→V) (hs:zr [(0,gV x1)] s) (h:Wg F x1=some r):Run D σ (R43 r) (.run A43 []) s:=by
 unfold Wg at h
 have h0:=hs
 refine .seq (zw (z3 ?_))
 refine ez [(0,_),(1,_)] ⟨za h0 rfl mIE,ze rfl⟩ ?_
 rintro s ⟨h0,h1⟩
 refine xo (gV x1) (zF h0 rfl) h1 rfl (g0 nI fun h2=>gq (.nsq (.seq (rg (g1 1 (.ref (.bx 1) 0 [0] (ji x1.1)) (rf (bG 1 x1)) fun h3=>g1 3 (ji x1.1) h3 fun h4=>g1 1 (.ref (.bx 1) 0 [0] (ji x1.1)) (rf (bG 1 x1)) fun h5=>g1 5 (ji x1.1) h5 fun h6=>?_)))))
 obtain ⟨q2,Eq2,h⟩:=zb h
 refine gv (ji q2) (uo rfl h6 Eq2) fun h7=>g1 7 (ji (w64 (q2 - 1))) h7 fun h8=>?_
 obtain ⟨r3,Er3,h⟩:=zb h
 refine gcF [Enc.enc (x1.1:Int),Enc.enc (w64 (q2 - 1):Int)] (zf h4 rfl rfl (zf h8 rfl rfl zA)) (H.c64 _ _ _ Er3) H.g64 (gm (rf (eL r3)) fun h2=>gq (.nsq (.ret ?_)))
 obtain rfl:=oi h
 exact rrA (zo h2) (ue (w6 (x:=(r3:LI))))
end
def e43 (F:Nat):Ent:=ent 43 (fun (x:(GR×Unit))=>Wg F x.1) (fun (r:LI)=>(eL r)) 0 true []
abbrev C43 (D:List V→Option V) (F:Nat):Prop:=∀ (x0:GR) r,Wg F x0=some r→D [Enc.enc x0]=some (eL r)
theorem p43 {F:Nat}:C43 (e43 F).den F:=fun x0 _ h=>zU (x0,()) h
theorem o43 (hF:zG Try.prog D σ) (H:H43 D σ F):(e43 F).Ok Try.prog:=okZ (f:=43) Try.func43 fun ⟨x0,_⟩ y hy=>cR hF Try.func43 c43 (t43 H x0 _ rfl hy)
def zrU:AC:=(.cond (.t 16) .skip (.exit 0))
def zsl:AC:=(.cond (.t 36) (rr [jm 37 1,jm 38 7,jv 39 (.idx (.t 37) (.t 38) 1),jl 40 39,jm 5 40]) .skip)
def zmG:AC:=(rr [jm 17 7,jv 18 (.bin .add (.t 17) (jn 1)),jm 7 18])
def zur:AC:=(.seq (.block 1 (.seq (rr [jm 19 0,jm 20 6,jm 21 1,jm 22 7,jv 23 (.idx (.t 21) (.t 22) 1),jl 24 23,jv 25 (.bin .shl (jn 1) (.t 24)),jv 26 (.bin .sub (.t 20) (.t 25)),jv 27 (.idx (.t 19) (.t 26) 1),jl 28 27,jm 29 0,jm 30 6,jm 31 5,jv 32 (.bin .shl (jn 1) (.t 31)),jv 33 (.bin .sub (.t 30) (.t 32)),jv 34 (.idx (.t 29) (.t 33) 1),jl 35 34,jv 36 (.bin .lss (.t 28) (.t 35))]) zsl)) zmG)
def zag:AC:=(.seq (.seq (rr [jm 13 7,jm 14 1,jk 15 14,jv 16 (.bin .lss (.t 13) (.t 15))]) zrU) zur)
def zgs:AC:=(.seq (rr [jm 41 5,jm 4 41]) .ret)
def zn5:AC:=(.block 0 (.loop zag))
def zvL:AC:=(.seq (.seq (rr [jv 7 (.mov (jn 0))]) zn5) zgs)
def zr6:AC:=(.seq (rr [jm 11 1,jx 12 (.call (jf 78) [.t 11]),jm 6 12]) zvL)
def zsx:AC:=(.seq (rr [jm 8 1,jv 9 (.idx (.t 8) (jn 0) 1),jl 10 9,jm 5 10]) zr6)
def A80:AC:=(.seq (rr [jv 4 (.mov (jn 0))]) zsx)
def zwi:List An:=[]
theorem c80:cq Try.prog Try.f80 zwi=some A80:=by kernel_rfl
structure H80 (D:Den) (σ:Sig) (F:Nat):Prop where
 c78:C78 (D 78) F
 g78:σ 78=some (0,false)
abbrev R80 (r:Int):(Nat→V)→Prop:=RR Try.prog [.tmp 4] 0 false (Enc.enc (r:Int))
section
variable {r:Int}
def XY (F:Nat) (x1:LI) (x2:LI) (r4:Int) (x14:Int) (c1:Int→Int→Option Int) (x29:Int):Option Int:=
 c1 x29 (w64 (x14 + 1))
theorem zec (H:H80 D σ F) (x1:LI) (x2:LI) (r4:Int) (x14:Int) (c1:Int→Int→Option Int) (Hc1:∀ (x13:Int) (x14:Int) (s:Nat→V),zr [(0,eL x1),(1,eL x2),(4,ji 0),(5,ji x13),(6,ji r4),(7,ji x14)] s→c1 x13 x14=some r→Run D σ (R80 r) (.run zag [.lp zag,.bk 0,.sq zgs]) s) (x29:Int) (s:Nat→V) (hs:zr [(0,eL x1),(1,eL x2),(4,ji 0),(5,ji x29),(6,ji r4),(7,ji x14)] s) (h:XY F x1 x2 r4 x14 c1 x29=some r):Run D σ (R80 r) (.nrm [.bk 1,.sq zmG,.lp zag,.bk 0,.sq zgs]) s:=by
 unfold XY at h
 obtain ⟨h0,h1,h4,h5,h6,h7⟩:=hs
 refine .nbk (.nsq (rg (gm h7 fun h17=>g1 17 (ji (w64 (x14 + 1))) h17 fun h18=>gm h18 fun h7=>gq (.nlp ?_))))
 exact Hc1 x29 (w64 (x14 + 1)) _ ⟨h0,h1,h4,h5,h6,h7⟩ h
def vw (F:Nat) (x1:LI) (x2:LI) (r4:Int) :Nat→Int→Int→Option Int
 | 0,_,_=>none
 | k + 1,x13,x14=>
   bif decide (x14 < (x2.length:Int)) then
    (idx x2 x14).bind fun v23=>
    (Xr .i64 1 v23).bind fun q24=>
    (idx x1 (w64 (r4 - q24))).bind fun v25=>
    (Xr .i64 1 x13).bind fun q26=>
    (idx x1 (w64 (r4 - q26))).bind fun v27=>
    bif decide (v25 < v27) then
     (idx x2 x14).bind fun v30=>
     XY F x1 x2 r4 x14 (vw F x1 x2 r4 k) v30
    else
     XY F x1 x2 r4 x14 (vw F x1 x2 r4 k) x13
   else
    some x13
theorem zjg (H:H80 D σ F) (x1:LI) (x2:LI) (r4:Int) :∀ (k:Nat) (x13:Int) (x14:Int) (s:Nat→V),zr [(0,eL x1),(1,eL x2),(4,ji 0),(5,ji x13),(6,ji r4),(7,ji x14)] s→vw F x1 x2 r4 k x13 x14=some r→Run D σ (R80 r) (.run zag [.lp zag,.bk 0,.sq zgs]) s:=by
 intro k
 induction k with
 | zero=>intro x13 x14 s _ h;exact nm h
 | succ k ih=>
   intro x13 x14 s hs h
   rw [vw] at h
   obtain ⟨h0,h1,h4,h5,h6,h7⟩:=hs
   refine .seq (.seq (rg (gm h7 fun h13=>gm h1 fun h14=>gl x2 h14 fun h15=>g2 13 15 (jb (decide (x14 < (x2.length:Int)))) h13 h15 fun h16=>gq (.nsq (zn h16 h (fun h=>?_) (fun h=>?_))))))
   · refine .skip (.nsq (.seq (.block (.seq (rg (gm h0 fun h19=>gm h6 fun h20=>gm h1 fun h21=>gm h7 fun h22=>?_))))))
     obtain ⟨v23,Ev23,h⟩:=zb h
     refine gv (.ref .sh 0 [] (ji v23)) (yn (t:=.sh) (lo:=0) (xs:=x2) h21 h22 Ev23 rfl rfl) fun h23=>g1 23 (ji v23) h23 fun h24=>?_
     obtain ⟨q24,Eq24,h⟩:=zb h
     refine gv (ji q24) (uo rfl h24 Eq24) fun h25=>g2 20 25 (ji (w64 (r4 - q24))) h20 h25 fun h26=>?_
     obtain ⟨v25,Ev25,h⟩:=zb h
     refine gv (.ref .sh 0 [] (ji v25)) (yn (t:=.sh) (lo:=0) (xs:=x1) h19 h26 Ev25 rfl rfl) fun h27=>g1 27 (ji v25) h27 fun h28=>gm h0 fun h29=>gm h6 fun h30=>gm h5 fun h31=>?_
     obtain ⟨q26,Eq26,h⟩:=zb h
     refine gv (ji q26) (uo rfl h31 Eq26) fun h32=>g2 30 32 (ji (w64 (r4 - q26))) h30 h32 fun h33=>?_
     obtain ⟨v27,Ev27,h⟩:=zb h
     refine gv (.ref .sh 0 [] (ji v27)) (yn (t:=.sh) (lo:=0) (xs:=x1) h29 h33 Ev27 rfl rfl) fun h34=>g1 34 (ji v27) h34 fun h35=>g2 28 35 (jb (decide (v25 < v27))) h28 h35 fun h36=>gz [(0,_),(1,_),(4,_),(5,_),(6,_),(7,_),(36,_)] ⟨h0,h1,h4,h5,h6,h7,h36⟩ ?_
     rintro s ⟨h0,h1,h4,h5,h6,h7,h36⟩
     refine .nsq (zn h36 h (fun h=>?_) (fun h=>?_))
     · refine rg (gm h1 fun h37=>gm h7 fun h38=>?_)
       obtain ⟨v30,Ev30,h⟩:=zb h
       refine gv (.ref .sh 0 [] (ji v30)) (yn (t:=.sh) (lo:=0) (xs:=x2) h37 h38 Ev30 rfl rfl) fun h39=>g1 39 (ji v30) h39 fun h40=>gm h40 fun h5=>gq ?_
       exact zec H x1 x2 r4 x14 (vw F x1 x2 r4 k) ih v30 _ ⟨h0,h1,h4,h5,h6,h7⟩ h
     refine .skip ?_
     exact zec H x1 x2 r4 x14 (vw F x1 x2 r4 k) ih x13 _ ⟨h0,h1,h4,h5,h6,h7⟩ h
   refine .exit (.esq (.elp (.ebk (.nsq (.seq (rg (gm h5 fun h41=>gm h41 fun h4=>gq (.nsq (.ret ?_)))))))))
   obtain rfl:=oi h
   exact rrA (zo h4) rfl
def Xl (F:Nat) (x1:LI) (x2:LI):Option Int:=
 (idx x2 0).bind fun v3=>
 (XW F x2).bind fun r4=>
 vw F x1 x2 r4 F v3 0
theorem t80 (H:H80 D σ F) (x1:LI) (x2:LI) (s:Nat→V) (hs:zr [(0,eL x1),(1,eL x2)] s) (h:Xl F x1 x2=some r):Run D σ (R80 r) (.run A80 []) s:=by
 unfold Xl at h
 obtain ⟨h0,h1⟩:=hs
 refine .seq (rg (g0 (ji 0) fun h4=>gq (.nsq (.seq (rg (gm h1 fun h8=>?_))))))
 obtain ⟨v3,Ev3,h⟩:=zb h
 refine gv (.ref .sh 0 [] (ji v3)) (yn (t:=.sh) (lo:=0) (xs:=x2) h8 rfl Ev3 rfl rfl) fun h9=>g1 9 (ji v3) h9 fun h10=>gm h10 fun h5=>gq (.nsq (.seq (rg (gm h1 fun h11=>?_))))
 obtain ⟨r4,Er4,h⟩:=zb h
 refine gcF [eL x2] (zf h11 rfl (Enc.erase_enc (x2:LI)) zA) (H.c78 _ _ Er4) H.g78 (gm (rf (ji r4)) fun h6=>gq (.nsq (.seq (.seq (rg (g0 (ji 0) fun h7=>gq (.nsq (.block (.loop ?_)))))))))
 exact zjg H x1 x2 r4 F v3 0 _ ⟨h0,h1,h4,h5,h6,h7⟩ h
end
def e80 (F:Nat):Ent:=ent 80 (fun (x:(LI×LI×Unit))=>Xl F x.1 x.2.1) (fun (r:Int)=>(Enc.enc (r:Int))) 0 false []
abbrev C80 (D:List V→Option V) (F:Nat):Prop:=∀ (x0:LI) (x1:LI) r,Xl F x0 x1=some r→D [Enc.enc x0,Enc.enc x1]=some (Enc.enc (r:Int))
theorem p80 {F:Nat}:C80 (e80 F).den F:=fun x0 x1 _ h=>zU (x0,x1,()) h
theorem o80 (hF:zG Try.prog D σ) (H:H80 D σ F):(e80 F).Ok Try.prog:=okZ (f:=80) Try.func80 fun ⟨x0,x1,_⟩ y hy=>cR hF Try.func80 c80 (t80 H x0 x1 _ ⟨rfl,rfl⟩ hy)
def zoq:AC:=(.seq (.reg [.clr [3,5]] [jx 3 (.lit i0 0 []),jm 4 0,jx 5 (.app .s (.t 3) (.t 4)),jm 2 5] [.home 5 2]) .ret)
def zqY:AC:=(.seq (rr [jv 2 (.mov (.k (.sl .nl .s 0 [])))]) zoq)
def zrm:List An:=[⟨1,[.clr [3,5]],[],[],[.home 5 2]⟩]
theorem c79o:cq Try.prog Try.f79 zrm=some zqY:=by kernel_rfl
structure zvk (D:Den) (σ:Sig) (F:Nat):Prop where
 mk ::
abbrev zxF (r:(NL Int)):(Nat→V)→Prop:=RR Try.prog [.tmp 2] 1 false (zu .sh (r:NL Int))
section
variable {r:(NL Int)}
def YZ (F:Nat) (x1:LI):Option (NL Int):=
 (uQ [] x1).bind fun ap2=>
 some (.of ap2)
theorem zwA (H:zvk D σ F) (x1:LI) (s:Nat→V) (hs:zr [(0,eL x1)] s) (h:YZ F x1=some r):Run D σ (zxF r) (.run zqY []) s:=by
 unfold YZ at h
 have h0:=hs
 refine .seq (rg (g0 nI fun h2=>gq (.nsq (.seq (zw (z3 ?_))))))
 refine ez [(0,_),(2,_),(3,_),(5,_)] ⟨za h0 rfl me,za h2 rfl rfl,ze rfl,ze rfl⟩ ?_
 rintro s ⟨h0,h2,h3,h5⟩
 refine xI [] [] trivial rfl rfl h3 (gm h0 fun h4=>?_)
 obtain ⟨ap2,Eap2,h⟩:=zb h
 refine XR (q:=3) (p:=[]) (o:=.of ([]:LI)) (ys:=(x1:LI)) (t2:=.sh) (lo2:=0) rfl h4 rfl h5 (Z4 (o:=.of ([]:LI)) Eap2 trivial) (fun s2 ha2=>gm (rf (oI 5 [] (.of ap2))) fun h2=>yS (yu (r:=5) (x:=2) (v:=_) h2 rfl (fun s3 hz3=>?_)))
 refine ez [(2,oI 2 [] (.of ap2))] (hz3 2 _ _ h2 (zq (r:=5) (p:=[]) rfl rfl)) ?_
 rintro s h2
 refine .nsq (.ret ?_)
 obtain rfl:=oi h
 exact rrA (zo h2) (Xc (Xs (o:=((.of ap2):NL Int))) rfl (xD rfl))
end
def zo8 (F:Nat):Ent:=ent 1000000079 (fun (x:(LI×Unit))=>YZ F x.1) (fun (r:(NL Int))=>(zu .sh (r:NL Int))) 1 false []
abbrev znT (D:List V→Option V) (F:Nat):Prop:=∀ (x0:LI) r,YZ F x0=some r→D [Enc.enc x0]=some (zu .sh (r:NL Int))
theorem zqv {F:Nat}:znT (zo8 F).den F:=fun x0 _ h=>zU (x0,()) h
theorem zwC (hF:zG Try.prog D σ) (H:zvk D σ F):(zo8 F).Ok Try.prog:=okZ (f:=79) Try.func79 fun ⟨x0,_⟩ y hy=>cR hF Try.func79 c79o (zwA H x0 _ rfl hy)
def zp7:AC:=(.cond (.t 11) .skip (.exit 0))
def ztg:AC:=(.cond (.t 19) (.reg [.clr [25,26]] [jm 20 5,jm 21 0,jm 22 6,jv 23 (.idx (.t 21) (.t 22) 1),jl 24 23,jx 25 (.lit i0 1 [(0,0,.t 24)]),jx 26 (.app .s (.t 20) (.t 25)),jm 5 26] [.home 26 5]) .skip)
def zmI:AC:=(rr [jm 12 6,jv 13 (.bin .add (.t 12) (jn 1)),jm 6 13])
def ztX:AC:=(.seq (.block 1 (.seq (rr [jm 14 0,jm 15 6,jv 16 (.idx (.t 14) (.t 15) 1),jl 17 16,jm 18 1,jv 19 (.bin .neq (.t 17) (.t 18))]) ztg)) zmI)
def zai:AC:=(.seq (.seq (rr [jm 8 6,jm 9 0,jk 10 9,jv 11 (.bin .lss (.t 8) (.t 10))]) zp7) ztX)
def zfS:AC:=(.seq (.reg [] [jm 27 5,jm 4 27] [.home 5 4]) .ret)
def zr8:AC:=(.block 0 (.loop zai))
def zq4:AC:=(.seq (.seq (rr [jv 6 (.mov (jn 0))]) zr8) zfS)
def zrQ:AC:=(.seq (.reg [.clr [7]] [jx 7 (.lit i0 0 []),jm 5 7] [.home 7 5]) zq4)
def A65:AC:=(.seq (rr [jv 4 (.mov (.k (.sl .nl .s 0 [])))]) zrQ)
def zxK:List An:=[⟨1,[.clr [7]],[],[],[.home 7 5]⟩,⟨6,[.clr [25,26]],[],[],[.home 26 5]⟩,⟨7,[],[],[],[.home 5 4]⟩]
theorem c65:cq Try.prog Try.f65 zxK=some A65:=by kernel_rfl
structure H65 (D:Den) (σ:Sig) (F:Nat):Prop where
 mk ::
abbrev R65 (r:LI):(Nat→V)→Prop:=RR Try.prog [.tmp 4] 0 false (eL r)
section
variable {r:LI}
def Z1 (F:Nat) (x1:LI) (x2:Int) (x10:Int) (c1:LI→Int→Option LI) (x20:LI):Option LI:=
 c1 x20 (w64 (x10 + 1))
theorem zdT (H:H65 D σ F) (x1:LI) (x2:Int) (x10:Int) (c1:LI→Int→Option LI) (Hc1:∀ (x9:LI) (x10:Int) (s:Nat→V),zr [(0,eL x1),(1,ji x2),(4,nI),(5,oI 5 [] (.of x9)),(6,ji x10)] s→c1 x9 x10=some r→Run D σ (R65 r) (.run zai [.lp zai,.bk 0,.sq zfS]) s) (x20:LI) (s:Nat→V) (hs:zr [(0,eL x1),(1,ji x2),(4,nI),(5,oI 5 [] (.of x20)),(6,ji x10)] s) (h:Z1 F x1 x2 x10 c1 x20=some r):Run D σ (R65 r) (.nrm [.bk 1,.sq zmI,.lp zai,.bk 0,.sq zfS]) s:=by
 unfold Z1 at h
 obtain ⟨h0,h1,h4,h5,h6⟩:=hs
 refine .nbk (.nsq (rg (gm h6 fun h12=>g1 12 (ji (w64 (x10 + 1))) h12 fun h13=>gm h13 fun h6=>gq (.nlp ?_))))
 exact Hc1 x20 (w64 (x10 + 1)) _ ⟨h0,h1,h4,h5,h6⟩ h
def xX (F:Nat) (x1:LI) (x2:Int) :Nat→LI→Int→Option LI
 | 0,_,_=>none
 | k + 1,x9,x10=>
   bif decide (x10 < (x1.length:Int)) then
    (idx x1 x10).bind fun v17=>
    bif (v17 != x2) then
     (idx x1 x10).bind fun v21=>
     (uQ x9 [v21]).bind fun ap22=>
     Z1 F x1 x2 x10 (xX F x1 x2 k) ap22
    else
     Z1 F x1 x2 x10 (xX F x1 x2 k) x9
   else
    some x9
theorem zkV (H:H65 D σ F) (x1:LI) (x2:Int) :∀ (k:Nat) (x9:LI) (x10:Int) (s:Nat→V),zr [(0,eL x1),(1,ji x2),(4,nI),(5,oI 5 [] (.of x9)),(6,ji x10)] s→xX F x1 x2 k x9 x10=some r→Run D σ (R65 r) (.run zai [.lp zai,.bk 0,.sq zfS]) s:=by
 intro k
 induction k with
 | zero=>intro x9 x10 s _ h;exact nm h
 | succ k ih=>
   intro x9 x10 s hs h
   rw [xX] at h
   obtain ⟨h0,h1,h4,h5,h6⟩:=hs
   refine .seq (.seq (rg (gm h6 fun h8=>gm h0 fun h9=>gl x1 h9 fun h10=>g2 8 10 (jb (decide (x10 < (x1.length:Int)))) h8 h10 fun h11=>gq (.nsq (zn h11 h (fun h=>?_) (fun h=>?_))))))
   · refine .skip (.nsq (.seq (.block (.seq (rg (gm h0 fun h14=>gm h6 fun h15=>?_))))))
     obtain ⟨v17,Ev17,h⟩:=zb h
     refine gv (.ref .sh 0 [] (ji v17)) (yn (t:=.sh) (lo:=0) (xs:=x1) h14 h15 Ev17 rfl rfl) fun h16=>g1 16 (ji v17) h16 fun h17=>gm h1 fun h18=>g2 17 18 (jb (v17 != x2)) h17 h18 fun h19=>gq (.nsq (zn h19 h (fun h=>?_) (fun h=>?_)))
     · refine zw (z3 ?_)
       refine ez [(0,_),(1,_),(4,_),(5,_),(6,_),(25,_),(26,_)] ⟨za h0 rfl me,za h1 rfl mi,za h4 rfl rfl,za h5 rfl (zq (r:=5) (p:=[]) rfl rfl),za h6 rfl mi,ze rfl,ze rfl⟩ ?_
       rintro s ⟨h0,h1,h4,h5,h6,h25,h26⟩
       refine gm h5 fun h20=>gm h0 fun h21=>gm h6 fun h22=>?_
       obtain ⟨v21,Ev21,h⟩:=zb h
       refine gv (.ref .sh 0 [] (ji v21)) (yn (t:=.sh) (lo:=0) (xs:=x1) h21 h22 Ev21 rfl rfl) fun h23=>g1 23 (ji v21) h23 fun h24=>xI [(24,ji v21)] [Enc.enc (v21:Int)] h24 rfl rfl h25 ?_
       obtain ⟨ap22,Eap22,h⟩:=zb h
       refine XR (q:=5) (p:=[]) (o:=.of (x9:LI)) (ys:=([v21]:LI)) (t2:=.at 25 []) (lo2:=0) h20 rfl rfl h26 (Z4 (o:=.of (x9:LI)) Eap22 trivial) (fun s19 ha19=>gm (rf (oI 26 [] (.of ap22))) fun h5=>yS (yu (r:=26) (x:=5) (v:=_) h5 rfl (fun s20 hz20=>?_)))
       refine ez [(0,eL x1),(1,ji x2),(4,nI),(5,oI 5 [] (.of ap22)),(6,ji x10)] ⟨hz20 0 _ _ (show s19 0=(eL x1) from yh ha19 h0 me) me,hz20 1 _ _ (show s19 1=(ji x2) from yh ha19 h1 mi) mi,hz20 4 _ nI (show s19 4=nI from yh ha19 h4 rfl) rfl,hz20 5 _ _ h5 (zq (r:=26) (p:=[]) rfl rfl),hz20 6 _ _ (show s19 6=(ji x10) from yh ha19 h6 mi) mi⟩ ?_
       rintro s ⟨h0,h1,h4,h5,h6⟩
       exact zdT H x1 x2 x10 (xX F x1 x2 k) ih ap22 _ ⟨h0,h1,h4,h5,h6⟩ h
     refine .skip ?_
     exact zdT H x1 x2 x10 (xX F x1 x2 k) ih x9 _ ⟨h0,h1,h4,h5,h6⟩ h
   refine .exit (.esq (.elp (.ebk (.nsq (.seq (rg (gm h5 fun h27=>gm h27 fun h4=>yS (yu (r:=5) (x:=4) (v:=_) h4 rfl (fun s21 hz21=>?_)))))))))
   refine ez [(4,oI 4 [] (.of x9))] (hz21 4 _ _ h4 (zq (r:=5) (p:=[]) rfl rfl)) ?_
   rintro s h4
   refine .nsq (.ret ?_)
   obtain rfl:=oi h
   exact rrA (zo h4) (wY (wy (o:=.of x9)) (xD rfl))
def wX (F:Nat) (x1:LI) (x2:Int):Option LI:=
 xX F x1 x2 F [] 0
theorem t65 (H:H65 D σ F) (x1:LI) (x2:Int) (s:Nat→V) (hs:zr [(0,eL x1),(1,ji x2)] s) (h:wX F x1 x2=some r):Run D σ (R65 r) (.run A65 []) s:=by
 unfold wX at h
 obtain ⟨h0,h1⟩:=hs
 refine .seq (rg (g0 nI fun h4=>gq (.nsq (.seq (zw (z3 ?_))))))
 refine ez [(0,_),(1,_),(4,_),(7,_)] ⟨za h0 rfl me,za h1 rfl mi,za h4 rfl rfl,ze rfl⟩ ?_
 rintro s ⟨h0,h1,h4,h7⟩
 refine xI [] [] trivial rfl rfl h7 (gm (rf (oI 7 [] (.of []))) fun h5=>yS (yu (r:=7) (x:=5) (v:=_) h5 rfl (fun s2 hz2=>?_)))
 refine ez [(0,eL x1),(1,ji x2),(4,nI),(5,oI 5 [] (.of []))] ⟨hz2 0 _ _ h0 me,hz2 1 _ _ h1 mi,hz2 4 _ _ h4 rfl,hz2 5 _ _ h5 (zq (r:=7) (p:=[]) rfl rfl)⟩ ?_
 rintro s ⟨h0,h1,h4,h5⟩
 refine .nsq (.seq (.seq (rg (g0 (ji 0) fun h6=>gq (.nsq (.block (.loop ?_)))))))
 exact zkV H x1 x2 F [] 0 _ ⟨h0,h1,h4,h5,h6⟩ h
end
def e65 (F:Nat):Ent:=ent 65 (fun (x:(LI×Int×Unit))=>wX F x.1 x.2.1) (fun (r:LI)=>(eL r)) 0 false []
abbrev C65 (D:List V→Option V) (F:Nat):Prop:=∀ (x0:LI) (x1:Int) r,wX F x0 x1=some r→D [Enc.enc x0,Enc.enc x1]=some (eL r)
theorem p65 {F:Nat}:C65 (e65 F).den F:=fun x0 x1 _ h=>zU (x0,x1,()) h
theorem o65 (hF:zG Try.prog D σ) (H:H65 D σ F):(e65 F).Ok Try.prog:=okZ (f:=65) Try.func65 fun ⟨x0,x1,_⟩ y hy=>cR hF Try.func65 c65 (t65 H x0 x1 _ ⟨rfl,rfl⟩ hy)
def zof:AC:=(.cond (.t 23) .skip (.exit 0))
def zoo:AC:=(.reg [.clr [46]] [jv 36 (.load (.ag [.s,.p]) (.t 5)),jm 37 1,jm 38 11,jm 39 12,jm 40 13,jv 41 (.idx (.t 39) (.t 40) 1),jv 42 (.load .p (.t 41)),jm 43 14,jx 44 (.call (jf 65) [.t 42,.t 43]),jm 45 14,jx 46 (.callO (jf 61) [.t 36,.t 37,.t 38,.t 44,.t 45]),jm 11 46] [.home 46 11])
def zpQ:AC:=(.seq (rr [jm 32 11,jm 33 14,jm 34 4,jv 35 (.idx (.t 32) (.t 33) 1),jz (.store .s (.t 35) (.t 34))]) zoo)
def zn3:AC:=(rr [jm 24 13,jv 25 (.bin .add (.t 24) (jn 1)),jm 13 25])
def zpd:AC:=(.seq (.block 1 (.seq (rr [jm 26 1,jm 27 12,jm 28 13,jv 29 (.idx (.t 27) (.t 28) 1),jv 30 (.load .p (.t 29)),jx 31 (.call (jf 80) [.t 26,.t 30]),jm 14 31]) zpQ)) zn3)
def zes:AC:=(.seq (.seq (rr [jm 20 13,jm 21 12,jk 22 21,jv 23 (.bin .lss (.t 20) (.t 22))]) zof) zpd)
def zjl:AC:=(.seq (.reg [] [jm 47 11,jm 10 47] [.home 11 10]) .ret)
def zlk:AC:=(.block 0 (.loop zes))
def zme:AC:=(.seq (.seq (rr [jv 13 (.mov (jn 0))]) zlk) zjl)
def zpy:AC:=(.seq (rr [jv 17 (.load (.ag [.s,.p]) (.t 5)),jm 18 3,jx 19 (.call (jf 42) [.t 17,.t 18]),jm 12 19]) zme)
def zpm:AC:=(.seq (.reg [.clr [16]] [jm 15 2,jx 16 (.callO (jf 79) [.t 15]),jm 11 16] [.home 16 11]) zpy)
def zqb:AC:=(.seq (.reg [.clr [5]] [jx 5 (.box (.t 0)),jv 10 (.mov (.k (.sl .nl .s 0 [])))] []) zpm)
def zrZ:List An:=[⟨0,[.clr [5]],[],[],[]⟩,⟨1,[.clr [16]],[],[1001],[.home 16 11]⟩,⟨8,[.clr [46]],[],[1010],[.home 46 11]⟩,⟨9,[],[],[],[.home 11 10]⟩]
theorem c61o:cq Try.prog Try.f61 zrZ=some zqb:=by kernel_rfl
structure zog (D:Den) (σ:Sig) (F:Nat) (rc:GR→LI→LI→LI→Int→Option (NL Int)):Prop where
 c79o:znT (D 1000000079) F
 g79o:σ 1000000079=some (1,false)
 c42:C42 (D 42) F
 g42:σ 42=some (0,true)
 c80:C80 (D 80) F
 g80:σ 80=some (0,false)
 c65:C65 (D 65) F
 g65:σ 65=some (0,false)
 c61o:∀ (x0:GR) (x1:LI) (x2:LI) (x3:LI) (x4:Int) r,rc x0 x1 x2 x3 x4=some r→D 1000000061 [Enc.enc x0,Enc.enc x1,Enc.enc x2,Enc.enc x3,Enc.enc x4]=some (zu .sh (r:NL Int))
 g61o:σ 1000000061=some (1,false)
abbrev zqP (r:(NL Int)):(Nat→V)→Prop:=RR Try.prog [.tmp 10] 1 false (zu .sh (r:NL Int))
section
variable {rc:GR→LI→LI→LI→Int→Option (NL Int)} {r:(NL Int)}
def ur (F:Nat) (rc:GR→LI→LI→LI→Int→Option (NL Int)) (x2:LI) (x5:Int) (x1:GR) (r7:(List LI)) :Nat→(NL Int)→Int→Option (NL Int)
 | 0,_,_=>none
 | k + 1,x14,x15=>
   bif decide (x15 < (r7.length:Int)) then
    (idx r7 x15).bind fun v22=>
    (Xl F x2 v22).bind fun r23=>
    (idx x14.list r23).bind fun v24=>
    (idx r7 x15).bind fun v25=>
    (wX F v25 r23).bind fun r26=>
    (rc x1 x2 ((NL.set x14 r23.toNat x5).list) r26 r23).bind fun r27=>
    (ur F rc x2 x5 x1 r7 k) r27 (w64 (x15 + 1))
   else
    some x14
theorem zic (H:zog D σ F rc) (x2:LI) (x5:Int) (x1:GR) (r7:(List LI)) :∀ (k:Nat) (x14:(NL Int)) (x15:Int) (s:Nat→V),zr [(1,eL x2),(4,ji x5),(5,bG 5 x1),(10,nI),(11,oI 11 [] x14),(12,Enc.enc (r7:List LI)),(13,ji x15)] s→ur F rc x2 x5 x1 r7 k x14 x15=some r→Run D σ (zqP r) (.run zes [.lp zes,.bk 0,.sq zjl]) s:=by
 intro k
 induction k with
 | zero=>intro x14 x15 s _ h;exact nm h
 | succ k ih=>
   intro x14 x15 s hs h
   rw [ur] at h
   obtain ⟨h1,h4,h5,h10,h11,h12,h13⟩:=hs
   refine .seq (.seq (rg (gm h13 fun h20=>gm h12 fun h21=>gl r7 h21 fun h22=>g2 20 22 (jb (decide (x15 < (r7.length:Int)))) h20 h22 fun h23=>gq (.nsq (zn h23 h (fun h=>?_) (fun h=>?_))))))
   · refine .skip (.nsq (.seq (.block (.seq (rg (gm h1 fun h26=>gm h12 fun h27=>gm h13 fun h28=>?_))))))
     obtain ⟨v22,Ev22,h⟩:=zb h
     refine gv (.ref .sh 0 [] (eL v22)) (yn (t:=.sh) (lo:=0) (xs:=r7) h27 h28 Ev22 rfl rfl) fun h29=>g1 29 (eL v22) h29 fun h30=>?_
     obtain ⟨r23,Er23,h⟩:=zb h
     refine gcF [eL x2,eL v22] (zf h26 rfl (Enc.erase_enc (x2:LI)) (zf h30 rfl (Enc.erase_enc (v22:LI)) zA)) (H.c80 _ _ _ Er23) H.g80 (gm (rf (ji r23)) fun h14=>gq (.nsq (.seq (rg (gv (oI 11 [] x14) (wn h11 yU) fun h32=>gm h14 fun h33=>gm h4 fun h34=>?_)))))
     obtain ⟨v24,Ev24,h⟩:=zb h
     refine gv (.ref (.at 11 []) r23.toNat [] (ji v24)) (xq (o:=x14) h32 h33 Ev24 rfl) fun h35=>ye (ji x5) (zF h35 rfl) (zF h34 rfl) (xN (by first | rfl | simp [V.toks,V.tokss,Enc.toks_enc,yd])) (gz [(1,eL x2),(4,ji x5),(5,bG 5 x1),(10,nI),(11,_),(12,Enc.enc (r7:List LI)),(13,ji x15),(14,ji r23)] ⟨zd h1 uE,zd h4 rfl,zd h5 (zH rfl rfl uIE),zd h10 rfl,zd h11 (Lt (α:=Int) (u:=x5) (i:=r23.toNat) (o:=x14)),zd h12 uE,zd h13 rfl,zd h14 rfl⟩ ?_)
     rintro s ⟨h1,h4,h5,h10,h11,h12,h13,h14⟩
     refine .nsq (zw (z3 ?_))
     refine ez [(1,_),(4,_),(5,_),(10,_),(11,_),(12,_),(13,_),(14,_),(46,_)] ⟨za h1 rfl me,za h4 rfl mi,za h5 rfl (zj rfl mIE),za h10 rfl rfl,za h11 rfl (zq (r:=11) (p:=[]) rfl rfl),za h12 rfl me,za h13 rfl mi,za h14 rfl mi,ze rfl⟩ ?_
     rintro s ⟨h1,h4,h5,h10,h11,h12,h13,h14,h46⟩
     refine g1 5 (gV x1) h5 fun h36=>gm h1 fun h37=>gv (oI 11 [] (NL.set x14 r23.toNat x5)) (wn h11 yU) fun h38=>gm h12 fun h39=>gm h13 fun h40=>?_
     obtain ⟨v25,Ev25,h⟩:=zb h
     refine gv (.ref .sh 0 [] (eL v25)) (yn (t:=.sh) (lo:=0) (xs:=r7) h39 h40 Ev25 rfl rfl) fun h41=>g1 41 (eL v25) h41 fun h42=>gm h14 fun h43=>?_
     obtain ⟨r26,Er26,h⟩:=zb h
     refine gcF [eL v25,Enc.enc (r23:Int)] (zf h42 rfl (Enc.erase_enc (v25:LI)) (zf h43 rfl rfl zA)) (H.c65 _ _ _ Er26) H.g65 (gm h14 fun h45=>?_)
     obtain ⟨r27,Er27,h⟩:=zb h
     refine ZM (m:=1) (al:=false) (r:=zu .sh (r27:NL Int)) (v:=oI 46 [] r27) (kk:=1000000061) [Enc.enc (x1:GR),eL x2,Enc.enc ((NL.set x14 r23.toNat x5).list:LI),eL r26,Enc.enc (r23:Int)] (zf h36 rfl (Enc.erase_enc (x1:GR)) (zf h37 rfl (Enc.erase_enc (x2:LI)) (zf h38 vK (uw (o:=NL.set x14 r23.toNat x5)) (zf (v:=eL r26) rfl rfl (Enc.erase_enc (r26:LI)) (zf h45 rfl rfl zA))))) (H.c61o _ _ _ _ _ _ Er27) H.g61o rfl ve uc vK h46 (gv (oI 46 [] r27) (wn rfl yU) fun h11=>yS (yu (r:=46) (x:=11) (v:=_) h11 yU (fun s9 hz9=>?_)))
     refine ez [(1,eL x2),(4,ji x5),(5,bG 5 x1),(10,nI),(11,oI 11 [] r27),(12,Enc.enc (r7:List LI)),(13,ji x15)] ⟨hz9 1 _ _ h1 me,hz9 4 _ _ h4 mi,hz9 5 _ _ h5 (zj rfl mIE),hz9 10 _ _ h10 rfl,hz9 11 _ _ h11 (zq (r:=46) (p:=[]) rfl rfl),hz9 12 _ _ h12 me,hz9 13 _ _ h13 mi⟩ ?_
     rintro s ⟨h1,h4,h5,h10,h11,h12,h13⟩
     refine .nbk (.nsq (rg (gm h13 fun h24=>g1 24 (ji (w64 (x15 + 1))) h24 fun h25=>gm h25 fun h13=>gq (.nlp ?_))))
     exact ih r27 (w64 (x15 + 1)) _ ⟨h1,h4,h5,h10,h11,h12,h13⟩ h
   refine .exit (.esq (.elp (.ebk (.nsq (.seq (rg (gv (oI 11 [] x14) (wn h11 yU) fun h47=>gv (oI 11 [] x14) (wn h47 yU) fun h10=>yS (yu (r:=11) (x:=10) (v:=_) h10 yU (fun s10 hz10=>?_)))))))))
   refine ez [(10,oI 10 [] x14)] (hz10 10 _ _ h10 (zq (r:=11) (p:=[]) rfl rfl)) ?_
   rintro s h10
   refine .nsq (.ret ?_)
   obtain rfl:=oi h
   exact rrA (zo h10) (Xc (Xs (o:=(x14:NL Int))) rfl (xD rfl))
def Wj (F:Nat) (rc:GR→LI→LI→LI→Int→Option (NL Int)) (x1:GR) (x2:LI) (x3:LI) (x4:LI) (x5:Int):Option (NL Int):=
 (YZ F x3).bind fun r6=>
 (uI F x1 x4).bind fun r7=>
 ur F rc x2 x5 x1 r7 F r6 0
theorem zxP (H:zog D σ F rc) (x1:GR) (x2:LI) (x3:LI) (x4:LI) (x5:Int) (s:Nat→V) (hs:zr [(0,gV x1),(1,eL x2),(2,eL x3),(3,eL x4),(4,ji x5)] s) (h:Wj F rc x1 x2 x3 x4 x5=some r):Run D σ (zqP r) (.run zqb []) s:=by
 unfold Wj at h
 obtain ⟨h0,h1,h2,h3,h4⟩:=hs
 refine .seq (zw (z3 ?_))
 refine ez [(0,_),(1,_),(2,_),(3,_),(4,_),(5,_)] ⟨za h0 rfl mIE,za h1 rfl me,za h2 rfl me,za h3 rfl me,za h4 rfl mi,ze rfl⟩ ?_
 rintro s ⟨h0,h1,h2,h3,h4,h5⟩
 refine xo (gV x1) (zF h0 rfl) h5 rfl (g0 nI fun h10=>gq (.nsq (.seq (zw (z3 ?_)))))
 refine ez [(1,_),(2,_),(3,_),(4,_),(5,_),(10,_),(16,_)] ⟨za h1 rfl me,za h2 rfl me,za h3 rfl me,za h4 rfl mi,za rfl rfl (zj rfl mIE),za h10 rfl rfl,ze rfl⟩ ?_
 rintro s ⟨h1,h2,h3,h4,h5,h10,h16⟩
 refine gm h2 fun h15=>?_
 obtain ⟨r6,Er6,h⟩:=zb h
 refine ZM (m:=1) (al:=false) (r:=zu .sh (r6:NL Int)) (v:=oI 16 [] r6) (kk:=1000000079) [eL x3] (zf h15 rfl (Enc.erase_enc (x3:LI)) zA) (H.c79o _ _ Er6) H.g79o rfl ve uc vK h16 (gv (oI 16 [] r6) (wn rfl yU) fun h11=>yS (yu (r:=16) (x:=11) (v:=_) h11 yU (fun s3 hz3=>?_)))
 refine ez [(1,eL x2),(3,eL x4),(4,ji x5),(5,bG 5 x1),(10,nI),(11,oI 11 [] r6)] ⟨hz3 1 _ _ h1 me,hz3 3 _ _ h3 me,hz3 4 _ _ h4 mi,hz3 5 _ _ h5 (zj rfl mIE),hz3 10 _ _ h10 rfl,hz3 11 _ _ h11 (zq (r:=16) (p:=[]) rfl rfl)⟩ ?_
 rintro s ⟨h1,h3,h4,h5,h10,h11⟩
 refine .nsq (.seq (rg (g1 5 (gV x1) h5 fun h17=>gm h3 fun h18=>?_)))
 obtain ⟨r7,Er7,h⟩:=zb h
 refine ZI (m:=0) (al:=true) (r:=Enc.enc (r7:(List LI))) [Enc.enc (x1:GR),eL x4] (zf h17 rfl (Enc.erase_enc (x1:GR)) (zf h18 rfl (Enc.erase_enc (x4:LI)) zA)) (H.c42 _ _ _ Er7) H.g42 (ZP (xQ (v:=gV x1) h17 rfl rfl (xQ (v:=eL x4) h18 rfl rfl Z2))) rfl rfl rfl (gm (rf (Enc.enc (r7:List LI))) fun h12=>gq (.nsq (.seq (.seq (rg (g0 (ji 0) fun h13=>gq (.nsq (.block (.loop ?_)))))))))
 exact zic H x2 x5 x1 r7 F r6 0 _ ⟨h1,h4,h5,h10,h11,h12,h13⟩ h
end
def wN (F:Nat):Nat→GR→LI→LI→LI→Int→Option (NL Int)
 | 0,_,_,_,_,_=>none
 | k + 1,x0,x1,x2,x3,x4=>Wj F (wN F k) x0 x1 x2 x3 x4
def XD (F:Nat) (x0:GR) (x1:LI) (x2:LI) (x3:LI) (x4:Int):Option (NL Int):=wN F F x0 x1 x2 x3 x4
def zhp (F:Nat) (k:Nat):Ent:=ent 1000000061 (fun (x:(GR×LI×LI×LI×Int×Unit))=>wN F k x.1 x.2.1 x.2.2.1 x.2.2.2.1 x.2.2.2.2.1) (fun (r:(NL Int))=>(zu .sh (r:NL Int))) 1 false []
theorem zoc {F:Nat} {k:Nat} {x0:GR} {x1:LI} {x2:LI} {x3:LI} {x4:Int} {r:(NL Int)} (h:wN F k x0 x1 x2 x3 x4=some r):(zhp F k).den [Enc.enc x0,Enc.enc x1,Enc.enc x2,Enc.enc x3,Enc.enc x4]=some (zu .sh (r:NL Int)):=zU (x0,x1,x2,x3,x4,()) h
theorem zwh {F:Nat}:(zhp F 0).Ok Try.prog:=by
 refine Jt (f:=61) (show unk 1000000061=61 from rfl) (fun args r h=>?_) ⟨Try.f61,Try.func61,rfl,rfl⟩
 obtain ⟨⟨x0,x1,x2,x3,x4,_⟩,y,rfl,hy,rfl⟩:=Xq h
 cases hy
theorem zxL {D:Den} {σ:Sig} {F k:Nat} (hF:zG Try.prog D σ) (H:zog D σ F (wN F k)):(zhp F (k + 1)).Ok Try.prog:=by
 refine Jt (f:=61) (show unk 1000000061=61 from rfl) (fun args r h=>?_) ⟨Try.f61,Try.func61,rfl,rfl⟩
 obtain ⟨⟨x0,x1,x2,x3,x4,_⟩,y,rfl,hy,rfl⟩:=Xq h
 exact Yi hF (by kernel_rfl) Try.func61 rfl c61o (show 5≤Try.f61.ntmps by decide) (zxP H x0 x1 x2 x3 x4 _ ⟨rfl,rfl,rfl,rfl,rfl⟩ hy)
def zrn:AC:=(.cond (.t 23) .skip (.exit 0))
def zt4:AC:=(.reg [.clr [46]] [jv 36 (.load (.ag [.s,.p]) (.t 5)),jm 37 1,jm 38 11,jm 39 12,jm 40 13,jv 41 (.idx (.t 39) (.t 40) 1),jv 42 (.load .p (.t 41)),jm 43 14,jx 44 (.call (jf 65) [.t 42,.t 43]),jm 45 14,jx 46 (.callO (jf 61) [.t 36,.t 37,.t 38,.t 44,.t 45]),jm 11 46] [.home 46 11])
def zt7:AC:=(.seq (rr [jm 32 11,jm 33 14,jm 34 4,jv 35 (.idx (.t 32) (.t 33) 1),jz (.store .s (.t 35) (.t 34))]) zt4)
def zsy:AC:=(rr [jm 24 13,jv 25 (.bin .add (.t 24) (jn 1)),jm 13 25])
def ztd:AC:=(.seq (.block 1 (.seq (rr [jm 26 1,jm 27 12,jm 28 13,jv 29 (.idx (.t 27) (.t 28) 1),jv 30 (.load .p (.t 29)),jx 31 (.call (jf 80) [.t 26,.t 30]),jm 14 31]) zt7)) zsy)
def zk7:AC:=(.seq (.seq (rr [jm 20 13,jm 21 12,jk 22 21,jv 23 (.bin .lss (.t 20) (.t 22))]) zrn) ztd)
def zmT:AC:=(.seq (.reg [] [jm 47 11,jm 10 47] [.home 11 10]) .ret)
def zn9:AC:=(.block 0 (.loop zk7))
def znv:AC:=(.seq (.seq (rr [jv 13 (.mov (jn 0))]) zn9) zmT)
def ztj:AC:=(.seq (rr [jv 17 (.load (.ag [.s,.p]) (.t 5)),jm 18 3,jx 19 (.call (jf 42) [.t 17,.t 18]),jm 12 19]) znv)
def zqe:AC:=(.seq (.reg [.clr [16]] [jm 15 2,jx 16 (.callO (jf 79) [.t 15]),jm 11 16] [.home 16 11]) ztj)
def A61:AC:=(.seq (.reg [.clr [5]] [jx 5 (.box (.t 0)),jv 10 (.mov (.k (.sl .nl .s 0 [])))] []) zqe)
def zxI:List An:=[⟨0,[.clr [5]],[],[],[]⟩,⟨1,[.clr [16]],[],[1001],[.home 16 11]⟩,⟨8,[.clr [46]],[],[1010],[.home 46 11]⟩,⟨9,[],[],[],[.home 11 10]⟩]
theorem c61:cq Try.prog Try.f61 zxI=some A61:=by kernel_rfl
structure H61 (D:Den) (σ:Sig) (F:Nat) (rc:GR→LI→LI→LI→Int→Option LI):Prop where
 c79o:znT (D 1000000079) F
 g79o:σ 1000000079=some (1,false)
 c42:C42 (D 42) F
 g42:σ 42=some (0,true)
 c80:C80 (D 80) F
 g80:σ 80=some (0,false)
 c65:C65 (D 65) F
 g65:σ 65=some (0,false)
 c61o:∀ (x0:GR) (x1:LI) (x2:LI) (x3:LI) (x4:Int) r,XD F x0 x1 x2 x3 x4=some r→D 1000000061 [Enc.enc x0,Enc.enc x1,Enc.enc x2,Enc.enc x3,Enc.enc x4]=some (zu .sh (r:NL Int))
 g61o:σ 1000000061=some (1,false)
abbrev R61 (r:LI):(Nat→V)→Prop:=RR Try.prog [.tmp 10] 0 false (eL r)
section
variable {rc:GR→LI→LI→LI→Int→Option LI} {r:LI}
def ZW (F:Nat) (rc:GR→LI→LI→LI→Int→Option LI) (x2:LI) (x5:Int) (x1:GR) (r7:(List LI)) :Nat→(NL Int)→Int→Option LI
 | 0,_,_=>none
 | k + 1,x14,x15=>
   bif decide (x15 < (r7.length:Int)) then
    (idx r7 x15).bind fun v22=>
    (Xl F x2 v22).bind fun r23=>
    (idx x14.list r23).bind fun v24=>
    (idx r7 x15).bind fun v25=>
    (wX F v25 r23).bind fun r26=>
    (XD F x1 x2 ((NL.set x14 r23.toNat x5).list) r26 r23).bind fun r27=>
    (ZW F rc x2 x5 x1 r7 k) r27 (w64 (x15 + 1))
   else
    some x14.list
theorem zjA (H:H61 D σ F rc) (x2:LI) (x5:Int) (x1:GR) (r7:(List LI)) :∀ (k:Nat) (x14:(NL Int)) (x15:Int) (s:Nat→V),zr [(1,eL x2),(4,ji x5),(5,bG 5 x1),(10,nI),(11,oI 11 [] x14),(12,Enc.enc (r7:List LI)),(13,ji x15)] s→ZW F rc x2 x5 x1 r7 k x14 x15=some r→Run D σ (R61 r) (.run zk7 [.lp zk7,.bk 0,.sq zmT]) s:=by
 intro k
 induction k with
 | zero=>intro x14 x15 s _ h;exact nm h
 | succ k ih=>
   intro x14 x15 s hs h
   rw [ZW] at h
   obtain ⟨h1,h4,h5,h10,h11,h12,h13⟩:=hs
   refine .seq (.seq (rg (gm h13 fun h20=>gm h12 fun h21=>gl r7 h21 fun h22=>g2 20 22 (jb (decide (x15 < (r7.length:Int)))) h20 h22 fun h23=>gq (.nsq (zn h23 h (fun h=>?_) (fun h=>?_))))))
   · refine .skip (.nsq (.seq (.block (.seq (rg (gm h1 fun h26=>gm h12 fun h27=>gm h13 fun h28=>?_))))))
     obtain ⟨v22,Ev22,h⟩:=zb h
     refine gv (.ref .sh 0 [] (eL v22)) (yn (t:=.sh) (lo:=0) (xs:=r7) h27 h28 Ev22 rfl rfl) fun h29=>g1 29 (eL v22) h29 fun h30=>?_
     obtain ⟨r23,Er23,h⟩:=zb h
     refine gcF [eL x2,eL v22] (zf h26 rfl (Enc.erase_enc (x2:LI)) (zf h30 rfl (Enc.erase_enc (v22:LI)) zA)) (H.c80 _ _ _ Er23) H.g80 (gm (rf (ji r23)) fun h14=>gq (.nsq (.seq (rg (gv (oI 11 [] x14) (wn h11 yU) fun h32=>gm h14 fun h33=>gm h4 fun h34=>?_)))))
     obtain ⟨v24,Ev24,h⟩:=zb h
     refine gv (.ref (.at 11 []) r23.toNat [] (ji v24)) (xq (o:=x14) h32 h33 Ev24 rfl) fun h35=>ye (ji x5) (zF h35 rfl) (zF h34 rfl) (xN (by first | rfl | simp [V.toks,V.tokss,Enc.toks_enc,yd])) (gz [(1,eL x2),(4,ji x5),(5,bG 5 x1),(10,nI),(11,_),(12,Enc.enc (r7:List LI)),(13,ji x15),(14,ji r23)] ⟨zd h1 uE,zd h4 rfl,zd h5 (zH rfl rfl uIE),zd h10 rfl,zd h11 (Lt (α:=Int) (u:=x5) (i:=r23.toNat) (o:=x14)),zd h12 uE,zd h13 rfl,zd h14 rfl⟩ ?_)
     rintro s ⟨h1,h4,h5,h10,h11,h12,h13,h14⟩
     refine .nsq (zw (z3 ?_))
     refine ez [(1,_),(4,_),(5,_),(10,_),(11,_),(12,_),(13,_),(14,_),(46,_)] ⟨za h1 rfl me,za h4 rfl mi,za h5 rfl (zj rfl mIE),za h10 rfl rfl,za h11 rfl (zq (r:=11) (p:=[]) rfl rfl),za h12 rfl me,za h13 rfl mi,za h14 rfl mi,ze rfl⟩ ?_
     rintro s ⟨h1,h4,h5,h10,h11,h12,h13,h14,h46⟩
     refine g1 5 (gV x1) h5 fun h36=>gm h1 fun h37=>gv (oI 11 [] (NL.set x14 r23.toNat x5)) (wn h11 yU) fun h38=>gm h12 fun h39=>gm h13 fun h40=>?_
     obtain ⟨v25,Ev25,h⟩:=zb h
     refine gv (.ref .sh 0 [] (eL v25)) (yn (t:=.sh) (lo:=0) (xs:=r7) h39 h40 Ev25 rfl rfl) fun h41=>g1 41 (eL v25) h41 fun h42=>gm h14 fun h43=>?_
     obtain ⟨r26,Er26,h⟩:=zb h
     refine gcF [eL v25,Enc.enc (r23:Int)] (zf h42 rfl (Enc.erase_enc (v25:LI)) (zf h43 rfl rfl zA)) (H.c65 _ _ _ Er26) H.g65 (gm h14 fun h45=>?_)
     obtain ⟨r27,Er27,h⟩:=zb h
     refine ZM (m:=1) (al:=false) (r:=zu .sh (r27:NL Int)) (v:=oI 46 [] r27) (kk:=1000000061) [Enc.enc (x1:GR),eL x2,Enc.enc ((NL.set x14 r23.toNat x5).list:LI),eL r26,Enc.enc (r23:Int)] (zf h36 rfl (Enc.erase_enc (x1:GR)) (zf h37 rfl (Enc.erase_enc (x2:LI)) (zf h38 vK (uw (o:=NL.set x14 r23.toNat x5)) (zf (v:=eL r26) rfl rfl (Enc.erase_enc (r26:LI)) (zf h45 rfl rfl zA))))) (H.c61o _ _ _ _ _ _ Er27) H.g61o rfl ve uc vK h46 (gv (oI 46 [] r27) (wn rfl yU) fun h11=>yS (yu (r:=46) (x:=11) (v:=_) h11 yU (fun s9 hz9=>?_)))
     refine ez [(1,eL x2),(4,ji x5),(5,bG 5 x1),(10,nI),(11,oI 11 [] r27),(12,Enc.enc (r7:List LI)),(13,ji x15)] ⟨hz9 1 _ _ h1 me,hz9 4 _ _ h4 mi,hz9 5 _ _ h5 (zj rfl mIE),hz9 10 _ _ h10 rfl,hz9 11 _ _ h11 (zq (r:=46) (p:=[]) rfl rfl),hz9 12 _ _ h12 me,hz9 13 _ _ h13 mi⟩ ?_
     rintro s ⟨h1,h4,h5,h10,h11,h12,h13⟩
     refine .nbk (.nsq (rg (gm h13 fun h24=>g1 24 (ji (w64 (x15 + 1))) h24 fun h25=>gm h25 fun h13=>gq (.nlp ?_))))
     exact ih r27 (w64 (x15 + 1)) _ ⟨h1,h4,h5,h10,h11,h12,h13⟩ h
   refine .exit (.esq (.elp (.ebk (.nsq (.seq (rg (gv (oI 11 [] x14) (wn h11 yU) fun h47=>gv (oI 11 [] x14) (wn h47 yU) fun h10=>yS (yu (r:=11) (x:=10) (v:=_) h10 yU (fun s10 hz10=>?_)))))))))
   refine ez [(10,oI 10 [] x14)] (hz10 10 _ _ h10 (zq (r:=11) (p:=[]) rfl rfl)) ?_
   rintro s h10
   refine .nsq (.ret ?_)
   obtain rfl:=oi h
   exact rrA (zo h10) (wY (wy (o:=x14)) (xD rfl))
def U8 (F:Nat) (rc:GR→LI→LI→LI→Int→Option LI) (x1:GR) (x2:LI) (x3:LI) (x4:LI) (x5:Int):Option LI:=
 (YZ F x3).bind fun r6=>
 (uI F x1 x4).bind fun r7=>
 ZW F rc x2 x5 x1 r7 F r6 0
theorem t61 (H:H61 D σ F rc) (x1:GR) (x2:LI) (x3:LI) (x4:LI) (x5:Int) (s:Nat→V) (hs:zr [(0,gV x1),(1,eL x2),(2,eL x3),(3,eL x4),(4,ji x5)] s) (h:U8 F rc x1 x2 x3 x4 x5=some r):Run D σ (R61 r) (.run A61 []) s:=by
 unfold U8 at h
 obtain ⟨h0,h1,h2,h3,h4⟩:=hs
 refine .seq (zw (z3 ?_))
 refine ez [(0,_),(1,_),(2,_),(3,_),(4,_),(5,_)] ⟨za h0 rfl mIE,za h1 rfl me,za h2 rfl me,za h3 rfl me,za h4 rfl mi,ze rfl⟩ ?_
 rintro s ⟨h0,h1,h2,h3,h4,h5⟩
 refine xo (gV x1) (zF h0 rfl) h5 rfl (g0 nI fun h10=>gq (.nsq (.seq (zw (z3 ?_)))))
 refine ez [(1,_),(2,_),(3,_),(4,_),(5,_),(10,_),(16,_)] ⟨za h1 rfl me,za h2 rfl me,za h3 rfl me,za h4 rfl mi,za rfl rfl (zj rfl mIE),za h10 rfl rfl,ze rfl⟩ ?_
 rintro s ⟨h1,h2,h3,h4,h5,h10,h16⟩
 refine gm h2 fun h15=>?_
 obtain ⟨r6,Er6,h⟩:=zb h
 refine ZM (m:=1) (al:=false) (r:=zu .sh (r6:NL Int)) (v:=oI 16 [] r6) (kk:=1000000079) [eL x3] (zf h15 rfl (Enc.erase_enc (x3:LI)) zA) (H.c79o _ _ Er6) H.g79o rfl ve uc vK h16 (gv (oI 16 [] r6) (wn rfl yU) fun h11=>yS (yu (r:=16) (x:=11) (v:=_) h11 yU (fun s3 hz3=>?_)))
 refine ez [(1,eL x2),(3,eL x4),(4,ji x5),(5,bG 5 x1),(10,nI),(11,oI 11 [] r6)] ⟨hz3 1 _ _ h1 me,hz3 3 _ _ h3 me,hz3 4 _ _ h4 mi,hz3 5 _ _ h5 (zj rfl mIE),hz3 10 _ _ h10 rfl,hz3 11 _ _ h11 (zq (r:=16) (p:=[]) rfl rfl)⟩ ?_
 rintro s ⟨h1,h3,h4,h5,h10,h11⟩
 refine .nsq (.seq (rg (g1 5 (gV x1) h5 fun h17=>gm h3 fun h18=>?_)))
 obtain ⟨r7,Er7,h⟩:=zb h
 refine ZI (m:=0) (al:=true) (r:=Enc.enc (r7:(List LI))) [Enc.enc (x1:GR),eL x4] (zf h17 rfl (Enc.erase_enc (x1:GR)) (zf h18 rfl (Enc.erase_enc (x4:LI)) zA)) (H.c42 _ _ _ Er7) H.g42 (ZP (xQ (v:=gV x1) h17 rfl rfl (xQ (v:=eL x4) h18 rfl rfl Z2))) rfl rfl rfl (gm (rf (Enc.enc (r7:List LI))) fun h12=>gq (.nsq (.seq (.seq (rg (g0 (ji 0) fun h13=>gq (.nsq (.block (.loop ?_)))))))))
 exact zjA H x2 x5 x1 r7 F r6 0 _ ⟨h1,h4,h5,h10,h11,h12,h13⟩ h
end
def Zk (F:Nat):Nat→GR→LI→LI→LI→Int→Option LI
 | 0,_,_,_,_,_=>none
 | k + 1,x0,x1,x2,x3,x4=>U8 F (Zk F k) x0 x1 x2 x3 x4
def Lw (F:Nat) (x0:GR) (x1:LI) (x2:LI) (x3:LI) (x4:Int):Option LI:=Zk F F x0 x1 x2 x3 x4
def e61 (F:Nat) (k:Nat):Ent:=ent 61 (fun (x:(GR×LI×LI×LI×Int×Unit))=>Zk F k x.1 x.2.1 x.2.2.1 x.2.2.2.1 x.2.2.2.2.1) (fun (r:LI)=>(eL r)) 0 false []
theorem p61 {F:Nat} {k:Nat} {x0:GR} {x1:LI} {x2:LI} {x3:LI} {x4:Int} {r:LI} (h:Zk F k x0 x1 x2 x3 x4=some r):(e61 F k).den [Enc.enc x0,Enc.enc x1,Enc.enc x2,Enc.enc x3,Enc.enc x4]=some (eL r):=zU (x0,x1,x2,x3,x4,()) h
theorem z61 {F:Nat}:(e61 F 0).Ok Try.prog:=by
 refine Jt (f:=61) (show unk 61=61 from rfl) (fun args r h=>?_) ⟨Try.f61,Try.func61,rfl,rfl⟩
 obtain ⟨⟨x0,x1,x2,x3,x4,_⟩,y,rfl,hy,rfl⟩:=Xq h
 cases hy
theorem o61 {D:Den} {σ:Sig} {F k:Nat} (hF:zG Try.prog D σ) (H:H61 D σ F (Zk F k)):(e61 F (k + 1)).Ok Try.prog:=by
 refine Jt (f:=61) (show unk 61=61 from rfl) (fun args r h=>?_) ⟨Try.f61,Try.func61,rfl,rfl⟩
 obtain ⟨⟨x0,x1,x2,x3,x4,_⟩,y,rfl,hy,rfl⟩:=Xq h
 exact Yi hF (by kernel_rfl) Try.func61 rfl c61 (show 5≤Try.f61.ntmps by decide) (t61 H x0 x1 x2 x3 x4 _ ⟨rfl,rfl,rfl,rfl,rfl⟩ hy)
def zuU:AC:=(.seq (.reg [.clr [8]] [jv 3 (.load (.ag [.s,.p]) (.t 1)),jv 4 (.load (.ag [.s,.p]) (.t 1)),jx 5 (.call (jf 58) [.t 4]),jv 6 (.fld (.t 1) 0 0),jl 7 6,jx 8 (.mk (.t 7) i0 i0),jv 9 (.load (.ag [.s,.p]) (.t 1)),jx 10 (.call (jf 43) [.t 9]),jx 11 (.call (jf 61) [.t 3,.t 5,.t 8,.t 10,jn (-1)]),jm 2 11] []) .ret)
def A38:AC:=(.seq (.reg [.clr [1]] [jx 1 (.box (.t 0)),jv 2 (.mov (.k (.sl .nl .s 0 [])))] []) zuU)
def zww:List An:=[⟨0,[.clr [1]],[],[],[]⟩,⟨1,[.clr [8]],[],[],[]⟩]
theorem c38:cq Try.prog Try.f38 zww=some A38:=by kernel_rfl
structure H38 (D:Den) (σ:Sig) (F:Nat):Prop where
 c58:C58 (D 58) F
 g58:σ 58=some (0,false)
 c43:C43 (D 43) F
 g43:σ 43=some (0,true)
 c61:∀ (x0:GR) (x1:LI) (x2:LI) (x3:LI) (x4:Int) r,Lw F x0 x1 x2 x3 x4=some r→D 61 [Enc.enc x0,Enc.enc x1,Enc.enc x2,Enc.enc x3,Enc.enc x4]=some (eL r)
 g61:σ 61=some (0,false)
abbrev R38 (r:LI):(Nat→V)→Prop:=RR Try.prog [.tmp 2] 0 true (eL r)
section
variable {r:LI}
def WO (F:Nat) (x1:GR):Option LI:=
 (Zo F x1).bind fun r2=>
 (mkN x1.1 (0:Int)).bind fun mk3=>
 (Wg F x1).bind fun r4=>
 (Lw F x1 r2 mk3 r4 (-1)).bind fun r5=>
 some r5
theorem t38 (H:H38 D σ F) (x1:GR) (s:Nat→V) (hs:zr [(0,gV x1)] s) (h:WO F x1=some r):Run D σ (R38 r) (.run A38 []) s:=by
 unfold WO at h
 have h0:=hs
 refine .seq (zw (z3 ?_))
 refine ez [(0,_),(1,_)] ⟨za h0 rfl mIE,ze rfl⟩ ?_
 rintro s ⟨h0,h1⟩
 refine xo (gV x1) (zF h0 rfl) h1 rfl (g0 nI fun h2=>gq (.nsq (.seq (zw (z3 ?_)))))
 refine ez [(1,_),(2,_),(8,_)] ⟨za rfl rfl (zj rfl mIE),za h2 rfl rfl,ze rfl⟩ ?_
 rintro s ⟨h1,h2,h8⟩
 refine g1 1 (gV x1) h1 fun h3=>g1 1 (gV x1) h1 fun h4=>?_
 obtain ⟨r2,Er2,h⟩:=zb h
 refine gcF [Enc.enc (x1:GR)] (zf h4 rfl (Enc.erase_enc (x1:GR)) zA) (H.c58 _ _ Er2) H.g58 (g1 1 (.ref (.bx 1) 0 [0] (ji x1.1)) h1 fun h6=>g1 6 (ji x1.1) h6 fun h7=>?_)
 obtain ⟨mk3,Emk3,h⟩:=zb h
 refine zdz (0:Int) h7 rfl h8 Emk3 (g1 1 (gV x1) h1 fun h9=>?_)
 obtain ⟨r4,Er4,h⟩:=zb h
 refine ZI (m:=0) (al:=true) (r:=eL r4) [Enc.enc (x1:GR)] (zf h9 rfl (Enc.erase_enc (x1:GR)) zA) (H.c43 _ _ Er4) H.g43 (ZP (xQ (v:=gV x1) h9 rfl rfl Z2)) rfl rfl rfl ?_
 obtain ⟨r5,Er5,h⟩:=zb h
 refine gcF [Enc.enc (x1:GR),eL r2,eL mk3,eL r4,Enc.enc ((-1):Int)] (zf h3 rfl (Enc.erase_enc (x1:GR)) (zf (v:=eL r2) rfl rfl (Enc.erase_enc (r2:LI)) (zf (v:=oI 8 [] (.of mk3)) rfl rfl (uw (o:=.of mk3)) (zf (v:=eL r4) rfl rfl (Enc.erase_enc (r4:LI)) (zf (v:=ji (-1)) rfl rfl rfl zA))))) (H.c61 _ _ _ _ _ _ Er5) H.g61 (gm (rf (eL r5)) fun h2=>gq (.nsq (.ret ?_)))
 obtain rfl:=oi h
 exact rrA (zo h2) (ue (w6 (x:=(r5:LI))))
end
def e38 (F:Nat):Ent:=ent 38 (fun (x:(GR×Unit))=>WO F x.1) (fun (r:LI)=>(eL r)) 0 true []
abbrev C38 (D:List V→Option V) (F:Nat):Prop:=∀ (x0:GR) r,WO F x0=some r→D [Enc.enc x0]=some (eL r)
theorem p38 {F:Nat}:C38 (e38 F).den F:=fun x0 _ h=>zU (x0,()) h
theorem o38 (hF:zG Try.prog D σ) (H:H38 D σ F):(e38 F).Ok Try.prog:=okZ (f:=38) Try.func38 fun ⟨x0,_⟩ y hy=>cR hF Try.func38 c38 (t38 H x0 _ rfl hy)
def ztf:AC:=(.cond (.t 6) (.seq (.reg [.clr [7]] [jx 7 (.lit i0 0 []),jm 2 7,jv 3 (.mov kf)] [.home 7 2]) .ret) .skip)
def zuz:AC:=(.seq (rr [jv 8 (.load (.ag [.s,.p]) (.t 1)),jx 9 (.call (jf 38) [.t 8]),jm 2 9,jv 3 (.mov kt)]) .ret)
def zrr:AC:=(.seq (.seq (rr [jv 4 (.load (.ag [.s,.p]) (.t 1)),jx 5 (.call (jf 28) [.t 4]),jv 6 (.un .not (.t 5))]) ztf) zuz)
def A13:AC:=(.seq (.reg [.clr [1]] [jx 1 (.box (.t 0)),jv 2 (.mov (.k (.sl .nl .s 0 []))),jv 3 (.mov kf)] []) zrr)
def zvV:List An:=[⟨0,[.clr [1]],[],[],[]⟩,⟨2,[.clr [7]],[],[],[.home 7 2]⟩]
theorem c13:cq Try.prog Try.f13 zvV=some A13:=by kernel_rfl
structure H13 (D:Den) (σ:Sig) (F:Nat):Prop where
 c28:C28 (D 28) F
 g28:σ 28=some (0,false)
 c38:C38 (D 38) F
 g38:σ 38=some (0,true)
abbrev R13 (r:(LI×Bool)):(Nat→V)→Prop:=RR Try.prog [.tmp 2,.tmp 3] 0 true (.tup [eL r.1,Enc.enc (r.2:Bool)])
section
variable {r:(LI×Bool)}
def Zj (F:Nat) (x1:GR):Option (LI×Bool):=
 (Zu F x1).bind fun r2=>
 bif (!r2) then
  some ([],false)
 else
  (WO F x1).bind fun r3=>
  some (r3,true)
theorem t13 (H:H13 D σ F) (x1:GR) (s:Nat→V) (hs:zr [(0,gV x1)] s) (h:Zj F x1=some r):Run D σ (R13 r) (.run A13 []) s:=by
 unfold Zj at h
 have h0:=hs
 refine .seq (zw (z3 ?_))
 refine ez [(0,_),(1,_)] ⟨za h0 rfl mIE,ze rfl⟩ ?_
 rintro s ⟨h0,h1⟩
 refine xo (gV x1) (zF h0 rfl) h1 rfl (g0 nI fun h2=>g0 (jb false) fun h3=>gq (.nsq (.seq (.seq (rg (g1 1 (gV x1) (rf (bG 1 x1)) fun h4=>?_))))))
 obtain ⟨r2,Er2,h⟩:=zb h
 refine gcF [Enc.enc (x1:GR)] (zf h4 rfl (Enc.erase_enc (x1:GR)) zA) (H.c28 _ _ Er2) H.g28 (g1 5 (jb (!r2)) (rf (jb r2)) fun h6=>gq (.nsq (zn h6 h (fun h=>?_) (fun h=>?_))))
 · refine .seq (zw (z3 ?_))
   refine ez [(1,_),(2,_),(3,_),(7,_)] ⟨za rfl rfl (zj rfl mIE),za h2 rfl rfl,za h3 rfl mb,ze rfl⟩ ?_
   rintro s ⟨h1,h2,h3,h7⟩
   refine xI [] [] trivial rfl rfl h7 (gm (rf (oI 7 [] (.of []))) fun h2=>g0 (jb false) fun h3=>yS (yu (r:=7) (x:=2) (v:=_) h2 rfl (fun s5 hz5=>?_)))
   refine ez [(1,bG 1 x1),(2,oI 2 [] (.of [])),(3,jb false)] ⟨hz5 1 _ _ h1 (zj rfl mIE),hz5 2 _ _ h2 (zq (r:=7) (p:=[]) rfl rfl),hz5 3 _ _ h3 mb⟩ ?_
   rintro s ⟨h1,h2,h3⟩
   refine .nsq (.ret ?_)
   obtain rfl:=oi h
   exact rrB (zo h2) (zo h3) (ue (Y9 (xd (wy (o:=.of [])) (xd (w6 (x:=(false:Bool))) Zr))))
 refine .skip (.nsq (.seq (rg (g1 1 (gV x1) (rf (bG 1 x1)) fun h8=>?_))))
 obtain ⟨r3,Er3,h⟩:=zb h
 refine ZI (m:=0) (al:=true) (r:=eL r3) [Enc.enc (x1:GR)] (zf h8 rfl (Enc.erase_enc (x1:GR)) zA) (H.c38 _ _ Er3) H.g38 (ZP (xQ (v:=gV x1) h8 rfl rfl Z2)) rfl rfl rfl (gm (rf (eL r3)) fun h2=>g0 (jb true) fun h3=>gq (.nsq (.ret ?_)))
 obtain rfl:=oi h
 exact rrB (zo h2) (zo h3) (ue (Y9 (xd (w6 (x:=(r3:LI))) (xd (w6 (x:=(true:Bool))) Zr))))
end
def e13 (F:Nat):Ent:=ent 13 (fun (x:(GR×Unit))=>Zj F x.1) (fun (r:(LI×Bool))=>(.tup [eL r.1,Enc.enc (r.2:Bool)])) 0 true []
abbrev C13 (D:List V→Option V) (F:Nat):Prop:=∀ (x0:GR) r,Zj F x0=some r→D [Enc.enc x0]=some (.tup [eL r.1,Enc.enc (r.2:Bool)])
theorem p13 {F:Nat}:C13 (e13 F).den F:=fun x0 _ h=>zU (x0,()) h
theorem o13 (hF:zG Try.prog D σ) (H:H13 D σ F):(e13 F).Ok Try.prog:=okZ (f:=13) Try.func13 fun ⟨x0,_⟩ y hy=>cR hF Try.func13 c13 (t13 H x0 _ rfl hy)
def zsD:AC:=(.cond (.t 13) .skip (.exit 0))
def zqO:AC:=(.reg [.clr [21,25,27,28,32]] [jy 21 (.lit i0 0 []),jm 22 5,jm 23 7,jv 24 (.slice (.t 22) none (some (.t 23)) 1),jy 25 (.appS .s (.t 21) (.t 24)),jm 26 6,jx 27 (.lit i0 1 [(0,0,.t 26)]),jy 28 (.appS .s (.t 25) (.t 27)),jm 29 5,jm 30 7,jv 31 (.slice (.t 29) (some (.t 30)) none 1),jx 32 (.appS .s (.t 28) (.t 31)),jm 5 32] [.home 32 5])
def zvD:AC:=(rr [jm 14 6,jv 15 (.bin .add (.t 14) (jn 1)),jm 6 15])
def zuS:AC:=(.seq (.block 1 (.seq (rr [jm 16 0,jm 17 5,jk 18 17,jv 19 (.bin .add (.t 18) (jn 1)),jx 20 (.callT (jf 24) [.t 16,.t 19] [0] []),jm 7 20]) zqO)) zvD)
def zkr:AC:=(.seq (.seq (rr [jm 9 6,jv 10 (.fld (.t 3) 0 0),jl 11 10,jx 12 (.call (jf 48) [.t 11,jn 8]),jv 13 (.bin .lss (.t 9) (.t 12))]) zsD) zuS)
def zuc:AC:=(.cond (.t 34) (.reg [.clr [37,39,40]] [jm 35 5,jm 36 0,jx 37 (.litS i0 3 [(0,0,jn 0),(1,1,jn (-1)),(2,2,jn 8)]),jx 38 (.callT (jf 39) [.t 36,.t 37] [0] []),jx 39 (.lit i0 1 [(0,0,.t 38)]),jx 40 (.app .s (.t 35) (.t 39)),jm 5 40] [.home 40 5]) .skip)
def zuJ:AC:=(.seq (.reg [] [jm 41 5,jm 4 41] [.home 5 4,.frz 4]) .ret)
def znf:AC:=(.seq (.seq (rr [jm 33 0,jx 34 (.callT (jf 22) [.t 33,jn 24] [0] [])]) zuc) zuJ)
def znL:AC:=(.block 0 (.loop zkr))
def zo3:AC:=(.seq (.seq (rr [jv 6 (.mov (jn 0))]) znL) znf)
def zsN:AC:=(.seq (.reg [.clr [8]] [jx 8 (.lit i0 0 []),jm 5 8] [.home 8 5]) zo3)
def A23:AC:=(.seq (.reg [.clr [3]] [jx 3 (.box (.t 1)),jv 4 (.mov (.k (.sl .nl .s 0 [])))] []) zsN)
def zxz:List An:=[⟨0,[.clr [3]],[],[],[]⟩,⟨1,[.clr [8]],[],[],[.home 8 5]⟩,⟨5,[],[],[5000000],[]⟩,⟨6,[.clr [21,25,27,28,32]],[0,4,7],[4,7,11],[.home 32 5]⟩,⟨7,[],[],[2000000],[]⟩,⟨8,[.clr [37,39,40]],[],[4000000,6002],[.home 40 5]⟩,⟨9,[],[],[],[.home 5 4,.frz 4]⟩]
theorem c23:cq Try.prog Try.f23 zxz=some A23:=by kernel_rfl
structure H23 (D:Den) (σ:Sig) (F:Nat):Prop where
 c48:C48 (D 48) F
 g48:σ 48=some (0,false)
 c24:C24 (D 24) F
 g24:σ 24=some (uA,false)
 c22:C22 (D 22) F
 g22:σ 22=some (uA,false)
 c39:C39 (D 39) F
 g39:σ 39=some (uA,false)
abbrev R23 (r:(LI×CU)):(Nat→V)→Prop:=RT Try.prog [.tmp 4] (eL r.1) [cuV zD r.2]
section
variable {r:(LI×CU)}
def xR (F:Nat) (x2:GR) :Nat→LB→Int→Int→LI→Int→Option (LI×CU)
 | 0,_,_,_,_,_=>none
 | k + 1,x10,x11,x12,x13,x14=>
   (uO F x2.1 8).bind fun r22=>
   bif decide (x14 < r22) then
    (yc F (cu x10 x11 x12) (w64 ((x13.length:Int) + 1))).bind fun r23=>
    (sub x13 0 r23.1).bind fun sub24=>
    (uQ [] sub24).bind fun ap25=>
    (uQ ap25 [x14]).bind fun ap26=>
    (sub x13 r23.1 (x13.length:Int)).bind fun sub27=>
    (uQ ap26 sub27).bind fun ap28=>
    (xR F x2 k) r23.2.a r23.2.b r23.2.c.v ap28 (w64 (x14 + 1))
   else
    (xO F (cu x10 x11 x12) 24).bind fun r29=>
    bif r29.1 then
     (y7 F (Cu.mk r29.2) [0,(-1),8]).bind fun r30=>
     (uQ x13 [r30.1]).bind fun ap31=>
     some (ap31,r30.2)
    else
     some (x13,r29.2)
theorem zjJ (H:H23 D σ F) (x2:GR) :∀ (k:Nat) (x10:LB) (x11:Int) (x12:Int) (x13:LI) (x14:Int) (s:Nat→V),zr [(0,.ref (.bx zD) 0 [] (.agg [eB x10,ji x11,.int .u64 x12])),(3,bG 3 x2),(4,nI),(5,oI 5 [] (.of x13)),(6,ji x14)] s→xR F x2 k x10 x11 x12 x13 x14=some r→Run D σ (R23 r) (.run zkr [.lp zkr,.bk 0,.sq znf]) s:=by
 intro k
 induction k with
 | zero=>intro x10 x11 x12 x13 x14 s _ h;exact nm h
 | succ k ih=>
   intro x10 x11 x12 x13 x14 s hs h
   rw [xR] at h
   obtain ⟨h0,h3,h4,h5,h6⟩:=hs
   refine .seq (.seq (rg (gm h6 fun h9=>g1 3 (.ref (.bx 3) 0 [0] (ji x2.1)) h3 fun h10=>g1 10 (ji x2.1) h10 fun h11=>?_)))
   obtain ⟨r22,Er22,h⟩:=zb h
   refine gcF [Enc.enc (x2.1:Int),Enc.enc (8:Int)] (zf h11 rfl rfl (zf (v:=ji 8) rfl rfl rfl zA)) (H.c48 _ _ _ Er22) H.g48 (g2 9 12 (jb (decide (x14 < r22))) h9 (rf (ji r22)) fun h13=>gq (.nsq (zn h13 h (fun h=>?_) (fun h=>?_))))
   · refine .skip (.nsq (.seq (.block (.seq (rg (gm h0 fun h16=>gm h5 fun h17=>gv (ji (x13.length:Int)) (Uk (o:=.of x13) h17) fun h18=>g1 18 (ji (w64 ((x13.length:Int) + 1))) h18 fun h19=>?_))))))
     obtain ⟨r23,Er23,h⟩:=zb h
     refine vM (r:=zD) (b:=0) (x:=((S3.mk x10 x11 (Kd.mk x12:Kd .u64)):CU)) (x':=r23.2) (vs:=[Enc.enc (w64 ((x13.length:Int) + 1):Int)]) (res:=Enc.enc (r23.1:Int)) h0 (by exact (zJ (v:=cuV zD ((S3.mk x10 x11 (Kd.mk x12:Kd .u64)):CU)) h16 rfl (zJ (v:=Enc.enc (w64 ((x13.length:Int) + 1):Int)) h19 rfl yw))) (yg te yr) fm1 (H.c24 _ _ _ Er23) H.g24 te rfl (fun s10 hb10 ha10=>gm (rf (ji r23.1)) fun h7=>?_)
     refine gz [(0,_),(3,bG 3 x2),(4,nI),(5,oI 5 [] (.of x13)),(6,ji x14),(7,_)] ⟨(show s10 0=(bC r23.2) from hb10 0 h0),(show s10 3=(bG 3 x2) from ha10 3 _ _ h3 rfl (zj rfl mIE)),(show s10 4=nI from ha10 4 _ _ h4 rfl rfl),(show s10 5=(oI 5 [] (.of x13)) from ha10 5 _ _ h5 rfl (zq (r:=5) (p:=[]) rfl rfl)),(show s10 6=(ji x14) from ha10 6 _ _ h6 rfl mi),h7⟩ ?_
     rintro s ⟨h0,h3,h4,h5,h6,h7⟩
     refine .nsq (zw (z3 ?_))
     refine ez [(0,_),(3,_),(4,_),(5,_),(6,_),(7,_),(21,_),(25,_),(27,_),(28,_),(32,_)] ⟨za h0 rfl (zj rfl Zh),za h3 rfl (zj rfl mIE),za h4 rfl rfl,za h5 rfl (zq (r:=5) (p:=[]) rfl rfl),za h6 rfl mi,za h7 rfl mi,ze rfl,ze rfl,ze rfl,ze rfl,ze rfl⟩ ?_
     rintro s ⟨h0,h3,h4,h5,h6,h7,h21,h25,h27,h28,h32⟩
     refine zb0 [] [] trivial rfl rfl h21 (gm h5 fun h22=>gm h7 fun h23=>?_)
     obtain ⟨sub24,Esub24,h⟩:=zb h
     refine gv (.sl (.at 5 []) (Enc.shp Int) (Int.toNat 0) ((sub24:LI).map Enc.enc)) (zaC (xs:=x13) h22 (YQ) (YY h23) Esub24 rfl) fun h24=>?_
     obtain ⟨ap25,Eap25,h⟩:=zb h
     refine Jh (p:=[]) (xs:=[]) (ys:=(sub24:LI)) (t2:=.at 5 []) (lo2:=Int.toNat 0) rfl h24 rfl h25 rfl Eap25 (gm h6 fun h26=>xI [(26,ji x14)] [Enc.enc (x14:Int)] h26 rfl rfl h27 ?_)
     obtain ⟨ap26,Eap26,h⟩:=zb h
     refine Jh (p:=[]) (xs:=ap25) (ys:=([x14]:LI)) (t2:=.at 27 []) (lo2:=0) rfl rfl rfl h28 rfl Eap26 (gm h5 fun h29=>gm h7 fun h30=>?_)
     obtain ⟨sub27,Esub27,h⟩:=zb h
     refine gv (.sl (.at 5 []) (Enc.shp Int) (Int.toNat r23.1) ((sub27:LI).map Enc.enc)) (zaC (xs:=x13) h29 (YY h30) (YQ) Esub27 rfl) fun h31=>?_
     obtain ⟨ap28,Eap28,h⟩:=zb h
     refine Jh (p:=[]) (xs:=ap26) (ys:=(sub27:LI)) (t2:=.at 5 []) (lo2:=Int.toNat r23.1) rfl h31 rfl h32 rfl Eap28 (gm (rf (oI 32 [] (.of ap28))) fun h5=>yS (yu (r:=32) (x:=5) (v:=_) h5 rfl (fun s12 hz12=>?_)))
     refine ez [(0,bC r23.2),(3,bG 3 x2),(4,nI),(5,oI 5 [] (.of ap28)),(6,ji x14)] ⟨hz12 0 _ _ h0 (zj rfl Zh),hz12 3 _ _ h3 (zj rfl mIE),hz12 4 _ _ h4 rfl,hz12 5 _ _ h5 (zq (r:=32) (p:=[]) rfl rfl),hz12 6 _ _ h6 mi⟩ ?_
     rintro s ⟨h0,h3,h4,h5,h6⟩
     refine .nbk (.nsq (rg (gm h6 fun h14=>g1 14 (ji (w64 (x14 + 1))) h14 fun h15=>gm h15 fun h6=>gq (.nlp ?_))))
     exact ih r23.2.a r23.2.b r23.2.c.v ap28 (w64 (x14 + 1)) _ ⟨h0,h3,h4,h5,h6⟩ h
   refine .exit (.esq (.elp (.ebk (.nsq (.seq (.seq (rg (gm h0 fun h33=>?_))))))))
   obtain ⟨r29,Er29,h⟩:=zb h
   refine vM (r:=zD) (b:=0) (x:=((S3.mk x10 x11 (Kd.mk x12:Kd .u64)):CU)) (x':=r29.2) (vs:=[Enc.enc (24:Int)]) (res:=Enc.enc (r29.1:Bool)) h0 (by exact (zJ (v:=cuV zD ((S3.mk x10 x11 (Kd.mk x12:Kd .u64)):CU)) h33 rfl (zJ (v:=Enc.enc (24:Int)) rfl rfl yw))) (yg te yr) fm1 (H.c22 _ _ _ Er29) H.g22 te rfl (fun s13 hb13 ha13=>gz [(0,_),(4,nI),(5,oI 5 [] (.of x13)),(34,jb r29.1)] ⟨(show s13 0=(bC r29.2) from hb13 0 h0),(show s13 4=nI from ha13 4 _ _ h4 rfl rfl),(show s13 5=(oI 5 [] (.of x13)) from ha13 5 _ _ h5 rfl (zq (r:=5) (p:=[]) rfl rfl)),rfl⟩ ?_)
   rintro s ⟨h0,h4,h5,h34⟩
   refine .nsq (zn h34 h (fun h=>?_) (fun h=>?_))
   · refine zw (z3 ?_)
     refine ez [(0,_),(4,_),(5,_),(37,_),(39,_),(40,_)] ⟨za h0 rfl (zj rfl Zh),za h4 rfl rfl,za h5 rfl (zq (r:=5) (p:=[]) rfl rfl),ze rfl,ze rfl,ze rfl⟩ ?_
     rintro s ⟨h0,h4,h5,h37,h39,h40⟩
     refine gm h5 fun h35=>gm h0 fun h36=>NJ [] ([0,(-1),8]:LI) trivial rfl rfl rfl h37 (fun s15 hd_15 hl_15=>?_)
     obtain ⟨r30,Er30,h⟩:=zb h
     refine vM (r:=zD) (b:=0) (x:=r29.2) (x':=r30.2) (vs:=[Enc.enc ([0,(-1),8]:LI)]) (res:=Enc.enc (r30.1:Int)) (show s15 0=(bC r29.2) from (hl_15 0 (by decide)).trans h0) (by exact (zJ (v:=cuV zD r29.2) (show s15 36=(bC r29.2) from (hl_15 36 (by decide)).trans h36) rfl (zJ (v:=Enc.enc ([0,(-1),8]:LI)) (show s15 37=(eL [0,(-1),8]) from hd_15) rfl yw))) (yg te yr) fm1 (H.c39 _ _ _ Er30) H.g39 te rfl (fun s16 hb16 ha16=>xI [(38,ji r30.1)] [Enc.enc (r30.1:Int)] rfl rfl rfl (show s16 39 = .gone from ha16 39 _ _ (show s15 39 = .gone from (hl_15 39 (by decide)).trans h39) rfl rfl) ?_)
     obtain ⟨ap31,Eap31,h⟩:=zb h
     refine XR (q:=5) (p:=[]) (o:=.of (x13:LI)) (ys:=([r30.1]:LI)) (t2:=.at 39 []) (lo2:=0) (show s16 35=(oI 5 [] (.of x13)) from ha16 35 _ _ (show s15 35=(oI 5 [] (.of x13)) from (hl_15 35 (by decide)).trans h35) rfl (zq (r:=5) (p:=[]) rfl rfl)) rfl rfl (show s16 40 = .gone from ha16 40 _ _ (show s15 40 = .gone from (hl_15 40 (by decide)).trans h40) rfl rfl) (Z4 (o:=.of (x13:LI)) Eap31 trivial) (fun s17 ha17=>gm (rf (oI 40 [] (.of ap31))) fun h5=>yS (yu (r:=40) (x:=5) (v:=_) h5 rfl (fun s18 hz18=>?_)))
     refine ez [(0,bC r30.2),(4,nI),(5,oI 5 [] (.of ap31))] ⟨hz18 0 _ _ (show s17 0=(bC r30.2) from yh ha17 (show s16 0=(bC r30.2) from hb16 0 (show s15 0=(bC r29.2) from (hl_15 0 (by decide)).trans h0)) (zj rfl Zh)) (zj rfl Zh),hz18 4 _ nI (show s17 4=nI from yh ha17 (show s16 4=nI from ha16 4 _ _ (show s15 4=nI from (hl_15 4 (by decide)).trans h4) rfl rfl) rfl) rfl,hz18 5 _ _ h5 (zq (r:=40) (p:=[]) rfl rfl)⟩ ?_
     rintro s ⟨h0,h4,h5⟩
     refine .nsq (.seq (rg (gm h5 fun h41=>gm h41 fun h4=>yS (yu (r:=5) (x:=4) (v:=_) h4 rfl (fun s19 hz19=>Uy (x:=4) (v:=oI 4 [] (.of ap31)) [.at 4 []] (by exact (hz19 4 _ _ h4 (zq (r:=5) (p:=[]) rfl rfl))) z6 (fun s20 hz20=>?_))))))
     refine ez [(0,bC r30.2),(4,eL ap31)] ⟨hz20 0 (bC r30.2) (bC r30.2) (hz19 0 _ _ h0 (zj rfl Zh)) (xC rfl ze0 rfl),hz20 4 (oI 4 [] (.of ap31)) (eL ap31) (hz19 4 _ _ h4 (zq (r:=5) (p:=[]) rfl rfl)) XO⟩ ?_
     rintro s ⟨h0,h4⟩
     refine .nsq (.ret ?_)
     obtain rfl:=oi h
     exact rt1 (t:=0) (zo h4) h0
   refine .skip (.nsq (.seq (rg (gm h5 fun h41=>gm h41 fun h4=>yS (yu (r:=5) (x:=4) (v:=_) h4 rfl (fun s21 hz21=>Uy (x:=4) (v:=oI 4 [] (.of x13)) [.at 4 []] (by exact (hz21 4 _ _ h4 (zq (r:=5) (p:=[]) rfl rfl))) z6 (fun s22 hz22=>?_)))))))
   refine ez [(0,bC r29.2),(4,eL x13)] ⟨hz22 0 (bC r29.2) (bC r29.2) (hz21 0 _ _ h0 (zj rfl Zh)) (xC rfl ze0 rfl),hz22 4 (oI 4 [] (.of x13)) (eL x13) (hz21 4 _ _ h4 (zq (r:=5) (p:=[]) rfl rfl)) XO⟩ ?_
   rintro s ⟨h0,h4⟩
   refine .nsq (.ret ?_)
   obtain rfl:=oi h
   exact rt1 (t:=0) (zo h4) h0
def uH (F:Nat) (x1:CC) (x2:GR):Option (LI×CU):=
 xR F x2 F x1.v.a x1.v.b x1.v.c.v [] 0
theorem t23 (H:H23 D σ F) (x1:CC) (x2:GR) (s:Nat→V) (hs:zr [(0,bC x1.v),(1,gV x2)] s) (h:uH F x1 x2=some r):Run D σ (R23 r) (.run A23 []) s:=by
 unfold uH at h
 obtain ⟨h0,h1⟩:=hs
 refine .seq (zw (z3 ?_))
 refine ez [(0,_),(1,_),(3,_)] ⟨za h0 rfl (zj rfl Zh),za h1 rfl mIE,ze rfl⟩ ?_
 rintro s ⟨h0,h1,h3⟩
 refine xo (gV x2) (zF h1 rfl) h3 rfl (g0 nI fun h4=>gq (.nsq (.seq (zw (z3 ?_)))))
 refine ez [(0,_),(3,_),(4,_),(8,_)] ⟨za h0 rfl (zj rfl Zh),za rfl rfl (zj rfl mIE),za h4 rfl rfl,ze rfl⟩ ?_
 rintro s ⟨h0,h3,h4,h8⟩
 refine xI [] [] trivial rfl rfl h8 (gm (rf (oI 8 [] (.of []))) fun h5=>yS (yu (r:=8) (x:=5) (v:=_) h5 rfl (fun s3 hz3=>?_)))
 refine ez [(0,bC x1.v),(3,bG 3 x2),(4,nI),(5,oI 5 [] (.of []))] ⟨hz3 0 _ _ h0 (zj rfl Zh),hz3 3 _ _ h3 (zj rfl mIE),hz3 4 _ _ h4 rfl,hz3 5 _ _ h5 (zq (r:=8) (p:=[]) rfl rfl)⟩ ?_
 rintro s ⟨h0,h3,h4,h5⟩
 refine .nsq (.seq (.seq (rg (g0 (ji 0) fun h6=>gq (.nsq (.block (.loop ?_)))))))
 exact zjJ H x2 F x1.v.a x1.v.b x1.v.c.v [] 0 _ ⟨h0,h3,h4,h5,h6⟩ h
end
def e23 (F:Nat):Ent:=ent 23 (fun (x:(CC×GR×Unit))=>uH F x.1 x.2.1) (fun (r:(LI×CU))=>(.tup [eL r.1,.tup [cuV zD r.2]])) uA false []
abbrev C23 (D:List V→Option V) (F:Nat):Prop:=∀ (x0:CC) (x1:GR) r,uH F x0 x1=some r→D [Arg.arg x0,Enc.enc x1]=some (.tup [eL r.1,.tup [cuV zD r.2]])
theorem p23 {F:Nat}:C23 (e23 F).den F:=fun x0 x1 _ h=>zU (x0,x1,()) h
theorem o23 (hF:zG Try.prog D σ) (H:H23 D σ F):(e23 F).Ok Try.prog:=okZ (f:=23) Try.func23 fun ⟨x0,x1,_⟩ y hy=>cT hF Try.func23 c23 (t23 H x0 x1 _ ⟨rfl,rfl⟩ hy)
end Go.Zq
