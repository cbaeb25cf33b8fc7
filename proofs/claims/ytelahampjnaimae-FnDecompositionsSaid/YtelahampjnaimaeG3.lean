/- Functions of the program, typed (part 3). No further condition. -/
import Derived.Test.YtelahampjnaimaeG2
set_option linter.unusedVariables false
set_option linter.unusedSimpArgs false
namespace Go.Zq
open Go.Proofs Go.Shelf Enc
variable {D:Den} {σ:Sig} {F:Nat}
def zvP:AC:=(.cond (.t 23) (.seq (.reg [.clr [25,26]] [jv 24 (.load (.ag [.s,.p]) (.t 5)),jx 25 (.litS i0 0 []),jx 26 (.lit (.sl .nl .s 0 []) 1 [(0,0,.t 25)]),jv 27 (.bld (.agg [.sl .nl .p 0 [],.sl .nl (.ag [.s,.s]) 0 []]) [(0,0,.t 26)]),jz (.store (.ag [.s,.p]) (.t 2) (.t 24)),jz (.store (.ag [.p,.p]) (.t 3) (.t 27))] []) .ret) .skip)
def zss:AC:=(.cond (.t 49) (rr [jx 50 (.vN (.fld (.t 6) 1 1) [4]),jx 51 (.vN (.load .p (.t 50)) [4]),jm 52 4,jx 53 (.vN (.fld (.t 6) 1 1) [4]),jx 54 (.vN (.load .p (.t 53)) [4]),jx 55 (.vN (.len (.t 54)) [4]),jx 56 (.callT (jf 20) [.t 52,.t 55] [4] []),jm 57 4,jx 58 (.callT (jf 20) [.t 57,jn 4] [4] []),jx 59 (.vN (.bin .sub (.t 58) (jn 1)) [4]),jm 60 4,jx 61 (.callT (jf 20) [.t 60,jn 6] [4] []),jv 62 (.bld (.agg [i0,i0]) [(0,0,.t 59),(1,1,.t 61)]),jv 63 (.idx (.t 51) (.t 56) 2),jz (.store (.ag [.s,.s]) (.t 63) (.t 62))]) .skip)
def zpC:AC:=(.reg [.clr [83,84]] [jv 72 (.fld (.t 6) 1 1),jv 73 (.load .p (.t 72)),jv 74 (.fld (.t 6) 0 0),jv 75 (.load .p (.t 74)),jk 76 75,jv 77 (.bin .sub (.t 76) (jn 2)),jv 78 (.fld (.t 6) 0 0),jv 79 (.load .p (.t 78)),jk 80 79,jv 81 (.bin .sub (.t 80) (jn 1)),jv 82 (.bld (.agg [i0,i0]) [(0,0,.t 77),(1,1,.t 81)]),jx 83 (.lit (.agg [i0,i0]) 1 [(0,0,.t 82)]),jx 84 (.app (.ag [.s,.s]) (.t 73) (.t 83)),jv 85 (.fld (.t 6) 1 1),jz (.store .p (.t 85) (.t 84))] [.drp 2121,.home 84 2121])
def ztX:AC:=(.cond (.t 94) (rr [jv 95 (.fld (.t 6) 0 0),jv 96 (.load .p (.t 95)),jm 97 8,jv 98 (.fld (.t 6) 0 0),jv 99 (.load .p (.t 98)),jm 100 8,jv 101 (.idx (.t 99) (.t 100) 1),jv 102 (.load .p (.t 101)),jv 103 (.slice (.t 102) (some (jn 1)) none 1),jv 104 (.idx (.t 96) (.t 97) 1),jz (.store .p (.t 104) (.t 103))]) .skip)
def zuB:AC:=(.cond (.t 110) (rr [jv 111 (.fld (.t 6) 1 1),jv 112 (.load .p (.t 111)),jv 113 (.slice (.t 112) (some (jn 1)) none 2),jv 114 (.fld (.t 6) 1 1),jz (.store .p (.t 114) (.t 113))]) .skip)
def zrD:AC:=(.cond (.t 105) (.seq (rr [jv 107 (.fld (.t 6) 1 1),jv 108 (.load .p (.t 107)),jk 109 108,jv 110 (.bin .gtr (.t 109) (jn 0))]) zuB) .skip)
def zsx:AC:=(.cond (.t 86) (.seq (rr [jv 88 (.fld (.t 6) 0 0),jv 89 (.load .p (.t 88)),jm 90 8,jv 91 (.idx (.t 89) (.t 90) 1),jv 92 (.load .p (.t 91)),jk 93 92,jv 94 (.bin .gtr (.t 93) (jn 0))]) ztX) (.seq (rr [jv 106 (.bin .eql (.t 34) (jn 4)),jm 105 106]) zrD))
def zqc:AC:=(.cond (.t 64) (.seq (.reg [.clr [68,69,70]] [jv 66 (.fld (.t 6) 0 0),jv 67 (.load .p (.t 66)),jx 68 (.litS i0 0 []),jx 69 (.lit (.sl .nl .s 0 []) 1 [(0,0,.t 68)]),jx 70 (.app .p (.t 67) (.t 69)),jv 71 (.fld (.t 6) 0 0),jz (.store .p (.t 71) (.t 70))] [.drp 2120,.home 70 2120]) zpC) (.seq (rr [jv 87 (.bin .eql (.t 34) (jn 3)),jm 86 87]) zsx))
def zru:AC:=(.cond (.t 44) (.seq (rr [jv 46 (.fld (.t 6) 1 1),jv 47 (.load .p (.t 46)),jk 48 47,jv 49 (.bin .gtr (.t 48) (jn 0))]) zss) (.seq (rr [jv 65 (.bin .eql (.t 34) (jn 2)),jm 64 65]) zqc))
def zxx:AC:=(.cond (.t 35) (rr [jx 37 (.vN (.fld (.t 6) 0 0) [4]),jx 38 (.vN (.load .p (.t 37)) [4]),jm 39 8,jm 40 4,jx 41 (.vN (.load (.ag [.s,.p]) (.t 5)) [4]),jx 42 (.callT (jf 21) [.t 40,.t 41] [4] []),jv 43 (.idx (.t 38) (.t 39) 1),jz (.store .p (.t 43) (.t 42))]) (.seq (rr [jv 45 (.bin .eql (.t 34) (jn 1)),jm 44 45]) zru))
def zxn:AC:=(.block 0 (.seq (rr [jv 36 (.bin .eql (.t 34) (jn 0)),jm 35 36]) zxx))
def zsN:AC:=(.seq (.reg [] [jv 115 (.load (.ag [.s,.p]) (.t 5)),jx 116 (.vN (.load (.ag [.p,.p]) (.t 6)) [2,2]),jz (.store (.ag [.s,.p]) (.t 2) (.t 115)),jz (.store (.ag [.p,.p]) (.t 3) (.t 116))] [.drp 26,.home 2120 26]) .ret)
def zwv:AC:=(.seq (.seq (rr [jm 33 4,jx 34 (.callT (jf 20) [.t 33,jn 8] [4] [])]) zxn) zsN)
def zw6:AC:=(.seq (rr [jm 28 4,jv 29 (.fld (.t 6) 0 0),jv 30 (.load .p (.t 29)),jk 31 30,jx 32 (.callT (jf 20) [.t 28,.t 31] [4] []),jm 8 32]) zwv)
def zxB:AC:=(.seq (.seq (rr [jm 22 7,jv 23 (.un .not (.t 22))]) zvP) zw6)
def zv6:AC:=(.seq (.reg [.clr [19,6]] [jx 15 (.vN (.load (.ag [.s,.p]) (.t 5)) [4]),jm 16 4,jx 17 (.vN (.load (.ag [.s,.p]) (.t 5)) [4]),jx 18 (.callTN (jf 19) [.t 16,.t 17] [4] [6]),jx 19 (.callO (jf 13) [.t 15,.t 18]),jm 14 19,jv 20 (.ext (.t 14) 0),jv 21 (.extS (.t 14) 1),jx 6 (.alloc (.agg [.sl .nl .p 0 [],.sl .nl (.ag [.s,.s]) 0 []])),jz (.store (.ag [.p,.p]) (.t 6) (.t 20)),jm 7 21] [.drp 2120,.ren 2120 19 [0,0],.drp 2121,.ren 2121 19 [0,1]]) zxB)
def zxH:AC:=(.seq (.reg [.clr [5]] [jm 12 4,jx 13 (.callT (jf 18) [.t 12] [4] []),jx 5 (.alloc (.agg [i0,.sl .nl (.ag [.s,.s]) 0 []])),jz (.store (.ag [.s,.p]) (.t 5) (.t 13))] []) zv6)
def zxQ:AC:=(.seq (.reg [.clr [11]] [jm 9 0,jv 10 (.bld (.agg [.sl .nl .s 0 [],i0,.int .u64 (.ofNat 0)]) [(0,0,.t 9)]),jx 11 (.box (.t 10)),jm 4 11] []) zxH)
def A5:AC:=(.seq (.reg [.clr [2,3]] [jx 2 (.alloc (.agg [i0,.sl .nl (.ag [.s,.s]) 0 []])),jx 3 (.alloc (.agg [.sl .nl .p 0 [],.sl .nl (.ag [.s,.s]) 0 []]))] []) zxQ)
def an5:List An:=[⟨0,[.clr [2,3]],[],[],[]⟩,⟨1,[.clr [11]],[],[],[]⟩,⟨2,[.clr [5]],[],[2000004],[]⟩,⟨3,[.clr [19,6]],[],[4000004,1000004,3000004,4900006,1004],[.drp 2120,.ren 2120 19 [0,0],.drp 2121,.ren 2121 19 [0,1]]⟩,⟨5,[.clr [25,26]],[],[6001],[]⟩,⟨6,[],[],[5000004],[]⟩,⟨7,[],[],[2000004],[]⟩,⟨9,[],[],[6000004,1000004,2000004,5000004],[]⟩,⟨12,[],[],[7000004,1000004,2000004,4000004,5000004,6000004,9000004,12000004,10000004],[]⟩,⟨14,[.clr [68,69,70]],[],[6002],[.drp 2120,.home 70 2120]⟩,⟨15,[.clr [83,84]],[],[],[.drp 2121,.home 84 2121]⟩,⟨22,[],[],[2000002,2000002],[.drp 26,.home 2120 26]⟩]
theorem c5:cq Tp Try.f5 an5=some A5:=by kernel_rfl
structure H5 (D:Den) (σ:Sig) (F:Nat):Prop where
 c18:C18 (D 18) F
 g18:σ 18=some (Zc,false)
 c19:C19 (D 19) F
 g19:σ 19=some (Zc,false)
 c13o:zr9 (D 1000000013) F
 g13o:σ 1000000013=some (1,true)
 c20:C20 (D 20) F
 g20:σ 20=some (Zc,false)
 c21:C21 (D 21) F
 g21:σ 21=some (Zc,false)
abbrev R5 (r:(GR×((List LI)×TP))):(Nat→V)→Prop:=RR Tp [.cell 2 26,.cell 3 29] 0 true (.tup [enc (r.1:GR),enc (r.2:((List LI)×TP))])
section
variable {r:(GR×((List LI)×TP))}
def wd (F:Nat) (x1:LB):Option (GR×((List LI)×TP)):=
 (vt F (cu x1 0 0)).bind fun r2=>
 (vB F (Cu.mk r2.2) r2.1).bind fun r3=>
 (wc F r2.1 r3.1).bind fun r4=>
 bif (!r4.2) then
  some (r2.1,([[]],[]))
 else
  (yj F (Cu.mk r3.2) (r4.1.1.list.length:Int)).bind fun r5=>
  (yj F (Cu.mk r5.2) 8).bind fun r6=>
  bif (r6.1 == 0) then
   (vq F (Cu.mk r6.2) r2.1).bind fun r7=>
   (idx r4.1.1.list r5.1).bind fun v8=>
   some (r2.1,((NL.set r4.1.1 r5.1.toNat r7.1).list,r4.1.2.list))
  else
   bif (r6.1 == 1) then
    bif decide ((r4.1.2.list.length:Int) > 0) then
     (yj F (Cu.mk r6.2) (r4.1.2.list.length:Int)).bind fun r9=>
     (yj F (Cu.mk r9.2) 4).bind fun r10=>
     (yj F (Cu.mk r10.2) 6).bind fun r11=>
     (idx r4.1.2.list r9.1).bind fun v12=>
     some (r2.1,(r4.1.1.list,(NL.set r4.1.2 r9.1.toNat (w64 (r10.1 - 1),r11.1)).list))
    else
     some (r2.1,(r4.1.1.list,r4.1.2.list))
   else
    bif (r6.1 == 2) then
     (vh r4.1.1.list ([[]])).bind fun ap13=>
     (vh r4.1.2.list [(w64 ((ap13.length:Int) - 2),w64 ((ap13.length:Int) - 1))]).bind fun ap14=>
     some (r2.1,(ap13,ap14))
    else
     bif (r6.1 == 3) then
      (idx r4.1.1.list r5.1).bind fun v15=>
      bif decide ((v15.length:Int) > 0) then
       (idx r4.1.1.list r5.1).bind fun v16=>
       (sub v16 1 (v16.length:Int)).bind fun sub17=>
       (idx r4.1.1.list r5.1).bind fun v18=>
       some (r2.1,((NL.set r4.1.1 r5.1.toNat sub17).list,r4.1.2.list))
      else
       some (r2.1,(r4.1.1.list,r4.1.2.list))
     else
      bif (r6.1 == 4) then
       bif decide ((r4.1.2.list.length:Int) > 0) then
        (zdX r4.1.2).bind fun li19=>
        (sub li19 1 (li19.length:Int)).bind fun sub20=>
        some (r2.1,(r4.1.1.list,sub20))
       else
        some (r2.1,(r4.1.1.list,r4.1.2.list))
      else
       some (r2.1,(r4.1.1.list,r4.1.2.list))
theorem t5 (H:H5 D σ F) (x1:LB) (s:Nat→V) (hs:zB [(0,eB x1)] s) (h:wd F x1=some r):Run D σ (R5 r) (.run A5 []) s:=by
 unfold wd at h
 have h0:=hs
 refine .seq (zC (yc ?_))
 refine ez [(0,_),(2,_),(3,_)] ⟨za h0 rfl me,zg rfl,zg rfl⟩ ?_
 rintro s ⟨h0,h2,h3⟩
 refine y6 h2 (y6 h3 (gq (.nsq (.seq (zC (yc ?_))))))
 refine ez [(0,_),(2,_),(3,_),(11,_)] ⟨za h0 rfl me,za rfl rfl (zi rfl (mIx rfl)),za rfl rfl (zi rfl (zr (zc rfl (zc rfl zk)))),zg rfl⟩ ?_
 rintro s ⟨h0,h2,h3,h11⟩
 refine gm h0 fun h9=>g1 9 (.agg [eB x1,ji 0,.int .u64 0]) h9 fun h10=>xU (.agg [eB x1,ji 0,.int .u64 0]) (zx h10 rfl) h11 rfl (gm (rf (.ref (.bx 11) 0 [] (.agg [eB x1,ji 0,.int .u64 0]))) fun h4=>gq (.nsq (.seq (zC (yc ?_)))))
 refine ez [(2,_),(3,_),(4,_),(5,_)] ⟨za h2 rfl (zi rfl (mIx rfl)),za h3 rfl (zi rfl (zr (zc rfl (zc rfl zk)))),za h4 rfl (zi rfl ue),zg rfl⟩ ?_
 rintro s ⟨h2,h3,h4,h5⟩
 refine gm h4 fun h12=>?_
 obtain ⟨r2,Er2,h⟩:=zd h
 refine vJ (r:=11) (b:=4) (x:=((S3.mk x1 0 (Kd.mk 0:Kd .u64)):CU)) (x':=r2.2) (vs:=[]) (res:=enc (r2.1:GR)) h4 (by exact (zL (v:=cuV 11 ((S3.mk x1 0 (Kd.mk 0:Kd .u64)):CU)) h12 rfl yQ)) yz (fun f=>zk) (H.c18 _ _ Er2) H.g18 te rfl (fun s4 hb4 ha4=>y6 (show s4 5 = .gone from ha4 5 _ _ h5 rfl rfl) (zQ (gV r2.1) (zx rfl rfl) (zx rfl rfl) (xr (by first | rfl | simp [V.toks,V.tokss,toks_enc,zN])) ?_))
 refine gz [(2,bZ 2),(3,.ref (.bx 3) 0 [] (.agg [.sl .nl (shp LI) 0 [],nP])),(4,.ref (.bx 11) 0 [] (cV r2.2)),(5,bG 5 r2.1)] ⟨zb (show s4 2=(bZ 2) from ha4 2 _ _ h2 rfl (zi rfl (mIx rfl))) (zj rfl rfl (zK (zf rfl (zf rfl rfl)))),zb (show s4 3=(.ref (.bx 3) 0 [] (.agg [.sl .nl (shp LI) 0 [],nP])) from ha4 3 _ _ h3 rfl (zi rfl (zr (zc rfl (zc rfl zk))))) (zj rfl rfl (zK (zf rfl (zf rfl rfl)))),zb (show s4 4=(.ref (.bx 11) 0 [] (cV r2.2)) from hb4 4 h4) (zj rfl rfl Uw),zb rfl rfl⟩ ?_
 rintro s ⟨h2,h3,h4,h5⟩
 refine .nsq (.seq (zC (yc ?_)))
 refine ez [(2,_),(3,_),(4,_),(5,_),(6,_),(19,_)] ⟨za h2 rfl (zi rfl (mIx rfl)),za h3 rfl (zi rfl (zr (zc rfl (zc rfl zk)))),za h4 rfl (zi rfl ue),za h5 rfl (zi rfl mIE),zg rfl,zg rfl⟩ ?_
 rintro s ⟨h2,h3,h4,h5,h6,h19⟩
 refine Ue (r:=11) (b:=4) (x:=r2.2) (gV r2.1) h4 (u7 [(5,bG 5 r2.1)] h5 rfl rfl) [(5,bG 5 r2.1)] h5 rfl (by simp [V.live,V.lives,y7,V.toks,V.tokss,zM,toks_enc,zP,xY]) (by simp [V.toks,V.tokss,zM,toks_enc,zP,xY]) (gm h4 fun h16=>Ue (r:=11) (b:=4) (x:=r2.2) (gV r2.1) h4 (u7 [(5,bG 5 r2.1)] h5 rfl rfl) [(5,bG 5 r2.1)] h5 rfl (by simp [V.live,V.lives,y7,V.toks,V.tokss,zM,toks_enc,zP,xY]) (by simp [V.toks,V.tokss,zM,toks_enc,zP,xY]) ?_)
 obtain ⟨r3,Er3,h⟩:=zd h
 refine zxD (r:=11) (x:=r2.2) h4 rfl (vJ (r:=11) (b:=4) (x:=r2.2) (x':=r3.2) (vs:=[enc (r2.1:GR)]) (res:=eL r3.1) h4 (by exact (zL (v:=cuV 11 r2.2) h16 rfl (zL (v:=enc (r2.1:GR)) rfl rfl yQ))) (yh te yz) fm1 (H.c19 _ _ _ Er3) H.g19 te rfl (fun s6 hb6 ha6=>?_))
 obtain ⟨r4,Er4,h⟩:=zd h
 refine YO (m:=1) (al:=true) (r:=.tup [.agg [zh .sh (r4.1.1:NL LI),zh .sh (r4.1.2:NL (Int×Int))],enc (r4.2:Bool)]) (v:=.tup [.agg [zh (.at 19 [0,0]) (r4.1.1:NL LI),zh (.at 19 [0,1]) (r4.1.2:NL (Int×Int))],jb r4.2]) (kk:=1000000013) [enc (r2.1:GR),eL r3.1] (zl (v:=gV r2.1) (show s6 15=(gV r2.1) from ha6 15 (gV r2.1) _ rfl rfl mIE) rfl (erase_enc (r2.1:GR)) (zl (v:=eL r3.1) rfl rfl (erase_enc (r3.1:LI)) zJ)) (H.c13o _ _ _ Er4) H.g13o (Xt (wC (v:=gV r2.1) (show s6 15=(gV r2.1) from ha6 15 (gV r2.1) _ rfl rfl mIE) rfl rfl (wC (v:=eL r3.1) rfl rfl rfl Xi))) (zi8 (yh (WR (yh vH (yh vH yz))) (yh rfl yz))) (zkz (vm (Jr (vm uK (vm uK We))) (vm rfl We))) rfl (show s6 19 = .gone from ha6 19 _ _ h19 rfl rfl) ?_
 refine gm (rf (.tup [.agg [zh (.at 19 [0,0]) (r4.1.1:NL LI),zh (.at 19 [0,1]) (r4.1.2:NL (Int×Int))],jb r4.2])) fun h14=>gv (.agg [zh (.at 19 [0,0]) (r4.1.1:NL LI),zh (.at 19 [0,1]) (r4.1.2:NL (Int×Int))]) (zkR (v:=.agg [zh (.at 19 [0,0]) (r4.1.1:NL LI),zh (.at 19 [0,1]) (r4.1.2:NL (Int×Int))]) h14 rfl rfl) fun h20=>g1 14 (jb r4.2) h14 fun h21=>y6 (show s6 6 = .gone from ha6 6 _ _ h6 rfl rfl) ?_
 refine zQ (.agg [zh (.at 19 [0,0]) (r4.1.1:NL LI),zh (.at 19 [0,1]) (r4.1.2:NL (Int×Int))]) (zx rfl rfl) (zx h20 rfl) ⟨by decide,by decide,rfl,(by simp [V.shape,V.shapes,zG,Sh.beq,Sh.beqs]),(by simp [V.mut,V.muts,V.shape,V.shapes,zG,Sh.beq,Sh.beqs]),(by simp [V.toks,V.tokss,zN])⟩ (gm (zb h21 rfl) fun h7=>xf (uq (x:=2120) (fun s7 hx_7 hd_7=>zcv (x:=2120) (q:=19) (p:=[0,0]) (v:=.dead) (by exact hx_7) rfl (fun s8 hz8=>uq (x:=2121) (fun s9 hx_9 hd_9=>zcv (x:=2121) (q:=19) (p:=[0,1]) (v:=.dead) (by exact hx_9) rfl (fun s10 hz10=>?_))))))
 refine ez [(2,bZ 2),(3,.ref (.bx 3) 0 [] (.agg [.sl .nl (shp LI) 0 [],nP])),(4,.ref (.bx 11) 0 [] (cV r3.2)),(5,bG 5 r2.1),(6,.ref (.bx 6) 0 [] (.agg [zh (.at 2120 []) (r4.1.1:NL LI),zh (.at 2121 []) (r4.1.2:NL (Int×Int))])),(7,jb r4.2)] ⟨hz10 2 _ (bZ 2) (show s9 2=(bZ 2) from (hd_9 2 (by decide)).trans (hz8 2 _ (bZ 2) (show s7 2=(bZ 2) from (hd_7 2 (by decide)).trans (zb (show s6 2=(bZ 2) from ha6 2 _ _ h2 rfl (zi rfl (mIx rfl))) (zj rfl rfl (zK (zf rfl (zf rfl rfl)))))) (zi rfl (mIx rfl)))) (zi rfl (mIx rfl)),hz10 3 _ (.ref (.bx 3) 0 [] (.agg [.sl .nl (shp LI) 0 [],nP])) (show s9 3=(.ref (.bx 3) 0 [] (.agg [.sl .nl (shp LI) 0 [],nP])) from (hd_9 3 (by decide)).trans (hz8 3 _ (.ref (.bx 3) 0 [] (.agg [.sl .nl (shp LI) 0 [],nP])) (show s7 3=(.ref (.bx 3) 0 [] (.agg [.sl .nl (shp LI) 0 [],nP])) from (hd_7 3 (by decide)).trans (zb (show s6 3=(.ref (.bx 3) 0 [] (.agg [.sl .nl (shp LI) 0 [],nP])) from ha6 3 _ _ h3 rfl (zi rfl (zr (zc rfl (zc rfl zk))))) (zj rfl rfl (zK (zf rfl (zf rfl rfl)))))) (zi rfl (zr (zc rfl (zc rfl zk)))))) (zi rfl (zr (zc rfl (zc rfl zk)))),hz10 4 _ (.ref (.bx 11) 0 [] (cV r3.2)) (show s9 4=(.ref (.bx 11) 0 [] (cV r3.2)) from (hd_9 4 (by decide)).trans (hz8 4 _ (.ref (.bx 11) 0 [] (cV r3.2)) (show s7 4=(.ref (.bx 11) 0 [] (cV r3.2)) from (hd_7 4 (by decide)).trans (zb (show s6 4=(.ref (.bx 11) 0 [] (cV r3.2)) from hb6 4 h4) (zj rfl rfl Uw))) (zi rfl ue))) (zi rfl ue),hz10 5 _ (bG 5 r2.1) (show s9 5=(bG 5 r2.1) from (hd_9 5 (by decide)).trans (hz8 5 _ (bG 5 r2.1) (show s7 5=(bG 5 r2.1) from (hd_7 5 (by decide)).trans (zb (show s6 5=(bG 5 r2.1) from ha6 5 _ _ h5 rfl (zi rfl mIE)) (zj rfl rfl uIE))) (zi rfl mIE))) (zi rfl mIE),hz10 6 _ (.ref (.bx 6) 0 [] (.agg [zh (.at 2120 []) (r4.1.1:NL LI),zh (.at 2121 []) (r4.1.2:NL (Int×Int))])) (show s9 6=(.ref (.bx 6) 0 [] (.agg [zh (.at 2120 []) (r4.1.1:NL LI),zh (.at 19 [0,1]) (r4.1.2:NL (Int×Int))])) from (hd_9 6 (by decide)).trans (hz8 6 _ (.ref (.bx 6) 0 [] (.agg [zh (.at 2120 []) (r4.1.1:NL LI),zh (.at 19 [0,1]) (r4.1.2:NL (Int×Int))])) (show s7 6=(.ref (.bx 6) 0 [] (.agg [zh (.at 19 [0,0]) (r4.1.1:NL LI),zh (.at 19 [0,1]) (r4.1.2:NL (Int×Int))])) from (hd_7 6 (by decide)).trans (zb rfl rfl)) (zi rfl (zr (zc (zm (r:=19) (p:=[0,0]) rfl rfl) (zc (zm (r:=19) (p:=[0,1]) rfl rfl) zk)))))) (zi rfl (zr (zc (zm (r:=2120) (p:=[]) rfl rfl) (zc (zm (r:=19) (p:=[0,1]) rfl rfl) zk)))),hz10 7 _ (jb r4.2) (show s9 7=(jb r4.2) from (hd_9 7 (by decide)).trans (hz8 7 _ (jb r4.2) (show s7 7=(jb r4.2) from (hd_7 7 (by decide)).trans h7) mb)) mb⟩ ?_
 rintro s ⟨h2,h3,h4,h5,h6,h7⟩
 refine .nsq (.seq (.seq (rg (gm h7 fun h22=>g1 22 (jb (!r4.2)) h22 fun h23=>gq (.nsq (zu h23 h (fun h=>?_) (fun h=>?_)))))))
 · refine .seq (zC (yc ?_))
   refine ez [(2,_),(3,_),(4,_),(5,_),(6,_),(25,_),(26,_)] ⟨za h2 rfl (zi rfl (mIx rfl)),za h3 rfl (zi rfl (zr (zc rfl (zc rfl zk)))),za h4 rfl (zi rfl ue),za h5 rfl (zi rfl mIE),za h6 rfl (zi rfl (zr (zc (zm (r:=2120) (p:=[]) rfl rfl) (zc (zm (r:=2121) (p:=[]) rfl rfl) zk)))),zg rfl,zg rfl⟩ ?_
   rintro s ⟨h2,h3,h4,h5,h6,h25,h26⟩
   refine g1 5 (gV r2.1) h5 fun h24=>?_
   refine KO [] ([]:LI) trivial rfl rfl rfl h25 (fun s14 hd_14 hl_14=>xv [(25,eL [])] [enc ([]:LI)] (show s14 25=(eL []) from hd_14) rfl rfl (show s14 26 = .gone from (hl_14 26 (by decide)).trans h26) (g1 26 (.agg [zh (.at 26 []) (.of ([[]]:List LI)),nP]) (rf (zh (.at 26 []) (.of ([[]]:List LI)))) fun h27=>zQ (gV r2.1) (zx (show s14 2=(bZ 2) from (hl_14 2 (by decide)).trans h2) rfl) (zx (show s14 24=(gV r2.1) from (hl_14 24 (by decide)).trans h24) rfl) (xr (by first | rfl | simp [V.toks,V.tokss,toks_enc,zN])) ?_))
   refine zQ (.agg [zh (.at 26 []) (.of ([[]]:List LI)),nP]) (zx (zb (show s14 3=(.ref (.bx 3) 0 [] (.agg [.sl .nl (shp LI) 0 [],nP])) from (hl_14 3 (by decide)).trans h3) (zj rfl rfl (zK (zf rfl (zf rfl rfl))))) rfl) (zx (zb h27 (zK (zf (yg rfl rfl) (zf rfl rfl)))) rfl) (xr (by first | rfl | simp [V.toks,V.tokss,toks_enc,zN])) ?_
   refine gz [(2,bG 2 r2.1),(3,.ref (.bx 3) 0 [] (.agg [zh (.at 26 []) (.of ([[]]:List LI)),nP])),(4,.ref (.bx 11) 0 [] (cV r3.2)),(5,bG 5 r2.1),(6,.ref (.bx 6) 0 [] (.agg [zh (.at 2120 []) (r4.1.1:NL LI),zh (.at 2121 []) (r4.1.2:NL (Int×Int))]))] ⟨zb (zb (show s14 2=(bZ 2) from (hl_14 2 (by decide)).trans h2) rfl) (zj rfl rfl uIE),zb (zb (show s14 3=(.ref (.bx 3) 0 [] (.agg [.sl .nl (shp LI) 0 [],nP])) from (hl_14 3 (by decide)).trans h3) (zj rfl rfl (zK (zf rfl (zf rfl rfl))))) rfl,zb (zb (show s14 4=(.ref (.bx 11) 0 [] (cV r3.2)) from (hl_14 4 (by decide)).trans h4) (zj rfl rfl Uw)) (zj rfl rfl Uw),zb (zb (show s14 5=(bG 5 r2.1) from (hl_14 5 (by decide)).trans h5) (zj rfl rfl uIE)) (zj rfl rfl uIE),zb (zb (show s14 6=(.ref (.bx 6) 0 [] (.agg [zh (.at 2120 []) (r4.1.1:NL LI),zh (.at 2121 []) (r4.1.2:NL (Int×Int))])) from (hl_14 6 (by decide)).trans h6) (zj rfl rfl (zK (zf (yg rfl rfl) (zf (yg rfl rfl) rfl))))) (zj rfl rfl (zK (zf (yg rfl rfl) (zf (yg rfl rfl) rfl))))⟩ ?_
   rintro s ⟨h2,h3,h4,h5,h6⟩
   refine .nsq (.ret ?_)
   obtain rfl:=oi h
   exact rrB (yL h2 (by kernel_rfl)) (yL h3 (by kernel_rfl)) (ww (uH (zW (w5 (x:=(r2.1:GR))) (zW (uB (zW (xk (o:=.of ([[]]))) (zW (xk (o:=(.nil:NL (Int×Int))) (t:=.nl)) xg))) xg))))
 refine .skip (.nsq (.seq (rg (gm h4 fun h28=>g1 6 (.ref (.bx 6) 0 [0] (zh (.at 2120 []) (r4.1.1:NL LI))) h6 fun h29=>gv (zh (.at 2120 []) (r4.1.1:NL LI)) (xm h29 w7) fun h30=>gv (ji (r4.1.1.list.length:Int)) (YN (o:=r4.1.1) h30) fun h31=>?_))))
 obtain ⟨r5,Er5,h⟩:=zd h
 refine vJ (r:=11) (b:=4) (x:=r3.2) (x':=r5.2) (vs:=[enc ((r4.1.1.list.length:Int):Int)]) (res:=enc (r5.1:Int)) h4 (by exact (zL (v:=cuV 11 r3.2) h28 rfl (zL (v:=enc ((r4.1.1.list.length:Int):Int)) h31 rfl yQ))) (yh te yz) fm1 (H.c20 _ _ _ Er5) H.g20 te rfl (fun s15 hb15 ha15=>gm (rf (ji r5.1)) fun h8=>?_)
 refine gz [(2,bZ 2),(3,.ref (.bx 3) 0 [] (.agg [.sl .nl (shp LI) 0 [],nP])),(4,_),(5,bG 5 r2.1),(6,.ref (.bx 6) 0 [] (.agg [zh (.at 2120 []) (r4.1.1:NL LI),zh (.at 2121 []) (r4.1.2:NL (Int×Int))])),(8,_)] ⟨(show s15 2=(bZ 2) from ha15 2 _ _ h2 rfl (zi rfl (mIx rfl))),(show s15 3=(.ref (.bx 3) 0 [] (.agg [.sl .nl (shp LI) 0 [],nP])) from ha15 3 _ _ h3 rfl (zi rfl (zr (zc rfl (zc rfl zk))))),(show s15 4=(.ref (.bx 11) 0 [] (cV r5.2)) from hb15 4 h4),(show s15 5=(bG 5 r2.1) from ha15 5 _ _ h5 rfl (zi rfl mIE)),(show s15 6=(.ref (.bx 6) 0 [] (.agg [zh (.at 2120 []) (r4.1.1:NL LI),zh (.at 2121 []) (r4.1.2:NL (Int×Int))])) from ha15 6 _ _ h6 rfl (zi rfl (zr (zc (zm (r:=2120) (p:=[]) rfl rfl) (zc (zm (r:=2121) (p:=[]) rfl rfl) zk))))),h8⟩ ?_
 rintro s ⟨h2,h3,h4,h5,h6,h8⟩
 refine .nsq (.seq (.seq (rg (gm h4 fun h33=>?_))))
 obtain ⟨r6,Er6,h⟩:=zd h
 refine vJ (r:=11) (b:=4) (x:=r5.2) (x':=r6.2) (vs:=[enc (8:Int)]) (res:=enc (r6.1:Int)) h4 (by exact (zL (v:=cuV 11 r5.2) h33 rfl (zL (v:=enc (8:Int)) rfl rfl yQ))) (yh te yz) fm1 (H.c20 _ _ _ Er6) H.g20 te rfl (fun s16 hb16 ha16=>?_)
 refine gz [(2,bZ 2),(3,.ref (.bx 3) 0 [] (.agg [.sl .nl (shp LI) 0 [],nP])),(4,_),(5,bG 5 r2.1),(6,.ref (.bx 6) 0 [] (.agg [zh (.at 2120 []) (r4.1.1:NL LI),zh (.at 2121 []) (r4.1.2:NL (Int×Int))])),(8,ji r5.1),(34,ji r6.1)] ⟨(show s16 2=(bZ 2) from ha16 2 _ _ h2 rfl (zi rfl (mIx rfl))),(show s16 3=(.ref (.bx 3) 0 [] (.agg [.sl .nl (shp LI) 0 [],nP])) from ha16 3 _ _ h3 rfl (zi rfl (zr (zc rfl (zc rfl zk))))),(show s16 4=(.ref (.bx 11) 0 [] (cV r6.2)) from hb16 4 h4),(show s16 5=(bG 5 r2.1) from ha16 5 _ _ h5 rfl (zi rfl mIE)),(show s16 6=(.ref (.bx 6) 0 [] (.agg [zh (.at 2120 []) (r4.1.1:NL LI),zh (.at 2121 []) (r4.1.2:NL (Int×Int))])) from ha16 6 _ _ h6 rfl (zi rfl (zr (zc (zm (r:=2120) (p:=[]) rfl rfl) (zc (zm (r:=2121) (p:=[]) rfl rfl) zk))))),(show s16 8=(ji r5.1) from ha16 8 _ _ h8 rfl mi),rfl⟩ ?_
 rintro s ⟨h2,h3,h4,h5,h6,h8,h34⟩
 refine .nsq (.block (.seq (rg (g1 34 (jb (r6.1 == 0)) h34 fun h36=>gm h36 fun h35=>gq (.nsq (zu h35 h (fun h=>?_) (fun h=>?_)))))))
 · refine rg (Ue (r:=11) (b:=4) (x:=r6.2) (.ref (.bx 6) 0 [0] (zh (.at 2120 []) (r4.1.1:NL LI))) h4 (u7 [(6,.ref (.bx 6) 0 [] (.agg [zh (.at 2120 []) (r4.1.1:NL LI),zh (.at 2121 []) (r4.1.2:NL (Int×Int))]))] h6 rfl rfl) [(6,.ref (.bx 6) 0 [] (.agg [zh (.at 2120 []) (r4.1.1:NL LI),zh (.at 2121 []) (r4.1.2:NL (Int×Int))]))] h6 rfl (by simp [V.live,V.lives,y7,yM (α:=LI) (fun _=>rfl),yM (α:=(Int×Int)) (fun _=>rfl),V.toks,V.tokss,zM,yP,toks_enc,yl,zP,xY,or_imp,y4]) (by simp +contextual [V.toks,V.tokss,zM,toks_enc,yl,zP,xY,or_imp,y4,imp_and,yP]) ?_)
   refine Ue (r:=11) (b:=4) (x:=r6.2) (zh (.at 2120 []) (r4.1.1:NL LI)) h4 (xm rfl w7) [(37,.ref (.bx 6) 0 [0] (zh (.at 2120 []) (r4.1.1:NL LI)))] rfl rfl (by simp [V.live,V.lives,y7,yM (α:=LI) (fun _=>rfl),V.toks,V.tokss,zM,yP,toks_enc,yl,zP,xY,or_imp,y4]) (by simp +contextual [V.toks,V.tokss,zM,toks_enc,yl,zP,xY,or_imp,y4,imp_and,yP]) ?_
   refine gm h8 fun h39=>gm h4 fun h40=>Ue (r:=11) (b:=4) (x:=r6.2) (gV r2.1) h4 (u7 [(5,bG 5 r2.1)] h5 rfl rfl) [(5,bG 5 r2.1)] h5 rfl (by simp [V.live,V.lives,y7,V.toks,V.tokss,zM,toks_enc,zP,xY]) (by simp [V.toks,V.tokss,zM,toks_enc,zP,xY]) ?_
   obtain ⟨r7,Er7,h⟩:=zd h
   refine vJ (r:=11) (b:=4) (x:=r6.2) (x':=r7.2) (vs:=[enc (r2.1:GR)]) (res:=eL r7.1) h4 (by exact (zL (v:=cuV 11 r6.2) h40 rfl (zL (v:=enc (r2.1:GR)) rfl rfl yQ))) (yh te yz) fm1 (H.c21 _ _ _ Er7) H.g21 te rfl (fun s17 hb17 ha17=>?_)
   obtain ⟨v8,Ev8,h⟩:=zd h
   refine gv (.ref (.at 2120 []) r5.1.toNat [] (eL v8)) (vi (o:=r4.1.1) (show s17 38=(zh (.at 2120 []) (r4.1.1:NL LI)) from ha17 38 (zh (.at 2120 []) (r4.1.1:NL LI)) _ rfl MS (zm (r:=2120) (p:=[]) rfl rfl)) (show s17 39=(ji r5.1) from ha17 39 _ _ h39 rfl mi) Ev8 rfl) fun h43=>zQ (eL r7.1) (zx h43 rfl) (zx rfl rfl) (xr (by first | rfl | simp [V.toks,V.tokss,toks_enc,zN])) ?_
   refine gz [(2,bZ 2),(3,.ref (.bx 3) 0 [] (.agg [.sl .nl (shp LI) 0 [],nP])),(5,bG 5 r2.1),(6,.ref (.bx 6) 0 [] (.agg [zh (.at 2120 []) ((NL.set r4.1.1 r5.1.toNat r7.1):NL LI),zh (.at 2121 []) (r4.1.2:NL (Int×Int))]))] ⟨zb (show s17 2=(bZ 2) from ha17 2 _ _ h2 rfl (zi rfl (mIx rfl))) (zj rfl rfl (zK (zf rfl (zf rfl rfl)))),zb (show s17 3=(.ref (.bx 3) 0 [] (.agg [.sl .nl (shp LI) 0 [],nP])) from ha17 3 _ _ h3 rfl (zi rfl (zr (zc rfl (zc rfl zk))))) (zj rfl rfl (zK (zf rfl (zf rfl rfl)))),zb (show s17 5=(bG 5 r2.1) from ha17 5 _ _ h5 rfl (zi rfl mIE)) (zj rfl rfl uIE),zb (show s17 6=(.ref (.bx 6) 0 [] (.agg [zh (.at 2120 []) (r4.1.1:NL LI),zh (.at 2121 []) (r4.1.2:NL (Int×Int))])) from ha17 6 _ _ h6 rfl (zi rfl (zr (zc (zm (r:=2120) (p:=[]) rfl rfl) (zc (zm (r:=2121) (p:=[]) rfl rfl) zk))))) (zj rfl rfl (zK (zf (Lv (α:=LI) (u:=r7.1) (i:=r5.1.toNat) (o:=r4.1.1)) (zf (yg rfl rfl) rfl))))⟩ ?_
   rintro s ⟨h2,h3,h5,h6⟩
   refine .nbk (.nsq (.seq (rg (g1 5 (gV r2.1) h5 fun h115=>?_))))
   refine N6 (r:=2) (.agg [zh (.at 2120 []) ((NL.set r4.1.1 r5.1.toNat r7.1):NL LI),zh (.at 2121 []) (r4.1.2:NL (Int×Int))]) (Wy h2) (xm (c:=.agg [zh (.at 2120 []) ((NL.set r4.1.1 r5.1.toNat r7.1):NL LI),zh (.at 2121 []) (r4.1.2:NL (Int×Int))]) h6 (by simp [V.shape,V.shapes,zG,Sh.beq,Sh.beqs])) [(6,.ref (.bx 6) 0 [] (.agg [zh (.at 2120 []) ((NL.set r4.1.1 r5.1.toNat r7.1):NL LI),zh (.at 2121 []) (r4.1.2:NL (Int×Int))]))] h6 rfl (by simp [V.live,V.lives,y7,yM (α:=LI) (fun _=>rfl),yM (α:=(Int×Int)) (fun _=>rfl),V.toks,V.tokss,zM,yP,toks_enc,yl,zP,xY,or_imp,y4]) (by simp +contextual [V.toks,V.tokss,zM,toks_enc,yl,zP,xY,or_imp,y4,imp_and,yP]) ?_
   refine zQ (gV r2.1) (zx h2 rfl) (zx h115 rfl) (xr (by first | rfl | simp [V.toks,V.tokss,toks_enc,zN])) (zQ (.agg [zh (.at 2120 []) ((NL.set r4.1.1 r5.1.toNat r7.1):NL LI),zh (.at 2121 []) (r4.1.2:NL (Int×Int))]) (zx (zb h3 (zj rfl rfl (zK (zf rfl (zf rfl rfl))))) rfl) (zx (zb rfl (zK (zf (yg rfl rfl) (zf (yg rfl rfl) rfl)))) rfl) ⟨by decide,by decide,rfl,(by simp [V.shape,V.shapes,zG,Sh.beq,Sh.beqs]),(by simp [V.mut,V.muts,V.shape,V.shapes,zG,Sh.beq,Sh.beqs]),(by simp [V.toks,V.tokss,zN])⟩ (xf ?_))
   refine uq (x:=26) (fun s18 hx_18 hd_18=>yR (r:=2120) (x:=26) (v:=_) (by exact hx_18) rfl (fun s19 hz19=>?_))
   refine ez [(2,bG 2 r2.1),(3,.ref (.bx 3) 0 [] (.agg [zh (.at 26 []) ((NL.set r4.1.1 r5.1.toNat r7.1):NL LI),zh (.at 2121 []) (r4.1.2:NL (Int×Int))]))] ⟨hz19 2 _ _ (show s18 2=(bG 2 r2.1) from (hd_18 2 (by decide)).trans (zb (zb h2 rfl) (zj rfl rfl uIE))) (zi rfl mIE),hz19 3 _ (.ref (.bx 3) 0 [] (.agg [zh (.at 26 []) ((NL.set r4.1.1 r5.1.toNat r7.1):NL LI),zh (.at 2121 []) (r4.1.2:NL (Int×Int))])) (show s18 3=(.ref (.bx 3) 0 [] (.agg [zh (.at 2120 []) ((NL.set r4.1.1 r5.1.toNat r7.1):NL LI),zh (.at 2121 []) (r4.1.2:NL (Int×Int))])) from (hd_18 3 (by decide)).trans (zb (zb h3 (zj rfl rfl (zK (zf rfl (zf rfl rfl))))) rfl)) (zi rfl (zr (zc (zm (r:=2120) (p:=[]) rfl rfl) (zc (zm (r:=2121) (p:=[]) rfl rfl) zk))))⟩ ?_
   rintro s ⟨h2,h3⟩
   refine .nsq (.ret ?_)
   obtain rfl:=oi h
   exact rrB (yL h2 (by kernel_rfl)) (yL h3 (by simp only [V.shape,V.shapes,zG];kernel_rfl)) (ww (uH (zW (w5 (x:=(r2.1:GR))) (zW (uB (zW (xk (o:=NL.set r4.1.1 r5.1.toNat r7.1)) (zW (xk (o:=r4.1.2)) xg))) xg))))
 refine .seq (rg (g1 34 (jb (r6.1 == 1)) h34 fun h45=>gm h45 fun h44=>gq (.nsq (zu h44 h (fun h=>?_) (fun h=>?_)))))
 · refine .seq (rg (gv (.ref (.bx 6) 0 [1] (zh (.at 2121 []) (r4.1.2:NL (Int×Int)))) (Ku (v:=zh (.at 2121 []) (r4.1.2:NL (Int×Int))) h6 rfl (by simp [V.shape,V.shapes,zG,Sh.size,Sh.sizes])) fun h46=>gv (zh (.at 2121 []) (r4.1.2:NL (Int×Int))) (xm h46 w7) fun h47=>gv (ji (r4.1.2.list.length:Int)) (YN (o:=r4.1.2) h47) fun h48=>g1 48 (jb (decide ((r4.1.2.list.length:Int) > 0))) h48 fun h49=>gq (.nsq (zu h49 h (fun h=>?_) (fun h=>?_)))))
   · refine rg (Ue (r:=11) (b:=4) (x:=r6.2) (.ref (.bx 6) 0 [1] (zh (.at 2121 []) (r4.1.2:NL (Int×Int)))) h4 (Ku (v:=zh (.at 2121 []) (r4.1.2:NL (Int×Int))) h6 rfl (by simp [V.shape,V.shapes,zG,Sh.size,Sh.sizes])) [(6,.ref (.bx 6) 0 [] (.agg [zh (.at 2120 []) (r4.1.1:NL LI),zh (.at 2121 []) (r4.1.2:NL (Int×Int))]))] h6 rfl (by simp [V.live,V.lives,y7,yM (α:=LI) (fun _=>rfl),yM (α:=(Int×Int)) (fun _=>rfl),V.toks,V.tokss,zM,yP,toks_enc,yl,zP,xY,or_imp,y4]) (by simp +contextual [V.toks,V.tokss,zM,toks_enc,yl,zP,xY,or_imp,y4,imp_and,yP]) ?_)
     refine Ue (r:=11) (b:=4) (x:=r6.2) (zh (.at 2121 []) (r4.1.2:NL (Int×Int))) h4 (xm rfl w7) [(50,.ref (.bx 6) 0 [1] (zh (.at 2121 []) (r4.1.2:NL (Int×Int))))] rfl rfl (by simp [V.live,V.lives,y7,yM (α:=(Int×Int)) (fun _=>rfl),V.toks,V.tokss,zM,yP,toks_enc,yl,zP,xY,or_imp,y4]) (by simp +contextual [V.toks,V.tokss,zM,toks_enc,yl,zP,xY,or_imp,y4,imp_and,yP]) ?_
     refine gm h4 fun h52=>Ue (r:=11) (b:=4) (x:=r6.2) (.ref (.bx 6) 0 [1] (zh (.at 2121 []) (r4.1.2:NL (Int×Int)))) h4 (Ku (v:=zh (.at 2121 []) (r4.1.2:NL (Int×Int))) h6 rfl (by simp [V.shape,V.shapes,zG,Sh.size,Sh.sizes])) [(6,.ref (.bx 6) 0 [] (.agg [zh (.at 2120 []) (r4.1.1:NL LI),zh (.at 2121 []) (r4.1.2:NL (Int×Int))]))] h6 rfl (by simp [V.live,V.lives,y7,yM (α:=LI) (fun _=>rfl),yM (α:=(Int×Int)) (fun _=>rfl),V.toks,V.tokss,zM,yP,toks_enc,yl,zP,xY,or_imp,y4]) (by simp +contextual [V.toks,V.tokss,zM,toks_enc,yl,zP,xY,or_imp,y4,imp_and,yP]) ?_
     refine Ue (r:=11) (b:=4) (x:=r6.2) (zh (.at 2121 []) (r4.1.2:NL (Int×Int))) h4 (xm rfl w7) [(53,.ref (.bx 6) 0 [1] (zh (.at 2121 []) (r4.1.2:NL (Int×Int))))] rfl rfl (by simp [V.live,V.lives,y7,yM (α:=(Int×Int)) (fun _=>rfl),V.toks,V.tokss,zM,yP,toks_enc,yl,zP,xY,or_imp,y4]) (by simp +contextual [V.toks,V.tokss,zM,toks_enc,yl,zP,xY,or_imp,y4,imp_and,yP]) ?_
     refine Ue (r:=11) (b:=4) (x:=r6.2) (ji (r4.1.2.list.length:Int)) h4 (YN (o:=r4.1.2) rfl) [(54,zh (.at 2121 []) (r4.1.2:NL (Int×Int)))] rfl rfl (by simp [V.live,V.lives,y7,yM (α:=(Int×Int)) (fun _=>rfl),V.toks,V.tokss,zM,yP,toks_enc,yl,zP,xY,or_imp,y4]) (by simp +contextual [V.toks,V.tokss,zM,toks_enc,yl,zP,xY,or_imp,y4,imp_and,yP]) ?_
     obtain ⟨r9,Er9,h⟩:=zd h
     refine vJ (r:=11) (b:=4) (x:=r6.2) (x':=r9.2) (vs:=[enc ((r4.1.2.list.length:Int):Int)]) (res:=enc (r9.1:Int)) h4 (by exact (zL (v:=cuV 11 r6.2) h52 rfl (zL (v:=enc ((r4.1.2.list.length:Int):Int)) rfl rfl yQ))) (yh te yz) fm1 (H.c20 _ _ _ Er9) H.g20 te rfl (fun s20 hb20 ha20=>gm (show s20 4=(.ref (.bx 11) 0 [] (cV r9.2)) from hb20 4 h4) fun h57=>?_)
     obtain ⟨r10,Er10,h⟩:=zd h
     refine vJ (r:=11) (b:=4) (x:=r9.2) (x':=r10.2) (vs:=[enc (4:Int)]) (res:=enc (r10.1:Int)) (show s20 4=(.ref (.bx 11) 0 [] (cV r9.2)) from hb20 4 h4) (by exact (zL (v:=cuV 11 r9.2) h57 rfl (zL (v:=enc (4:Int)) rfl rfl yQ))) (yh te yz) fm1 (H.c20 _ _ _ Er10) H.g20 te rfl (fun s21 hb21 ha21=>?_)
     refine Ue (r:=11) (b:=4) (x:=r10.2) (ji (w64 (r10.1 - 1))) (show s21 4=(.ref (.bx 11) 0 [] (cV r10.2)) from hb21 4 (show s20 4=(.ref (.bx 11) 0 [] (cV r9.2)) from hb20 4 h4)) (u7 [(58,ji r10.1)] rfl rfl rfl) [(58,ji r10.1)] rfl rfl (by simp [V.live,V.lives,y7,V.toks,V.tokss,zM,toks_enc,zP,xY]) (by simp [V.toks,V.tokss,zM,toks_enc,zP,xY]) (gm (show s21 4=(.ref (.bx 11) 0 [] (cV r10.2)) from hb21 4 (show s20 4=(.ref (.bx 11) 0 [] (cV r9.2)) from hb20 4 h4)) fun h60=>?_)
     obtain ⟨r11,Er11,h⟩:=zd h
     refine vJ (r:=11) (b:=4) (x:=r10.2) (x':=r11.2) (vs:=[enc (6:Int)]) (res:=enc (r11.1:Int)) (show s21 4=(.ref (.bx 11) 0 [] (cV r10.2)) from hb21 4 (show s20 4=(.ref (.bx 11) 0 [] (cV r9.2)) from hb20 4 h4)) (by exact (zL (v:=cuV 11 r10.2) h60 rfl (zL (v:=enc (6:Int)) rfl rfl yQ))) (yh te yz) fm1 (H.c20 _ _ _ Er11) H.g20 te rfl (fun s22 hb22 ha22=>g2 59 61 (.agg [ji (w64 (r10.1 - 1)),ji r11.1]) (show s22 59=(ji (w64 (r10.1 - 1))) from ha22 59 (ji (w64 (r10.1 - 1))) _ rfl rfl mi) (rf (ji r11.1)) fun h62=>?_)
     obtain ⟨v12,Ev12,h⟩:=zd h
     refine gv (.ref (.at 2121 []) r9.1.toNat [] (.agg [ji v12.1,ji v12.2])) (vi (o:=r4.1.2) (show s22 51=(zh (.at 2121 []) (r4.1.2:NL (Int×Int))) from ha22 51 (zh (.at 2121 []) (r4.1.2:NL (Int×Int))) _ (show s21 51=(zh (.at 2121 []) (r4.1.2:NL (Int×Int))) from ha21 51 (zh (.at 2121 []) (r4.1.2:NL (Int×Int))) _ (show s20 51=(zh (.at 2121 []) (r4.1.2:NL (Int×Int))) from ha20 51 (zh (.at 2121 []) (r4.1.2:NL (Int×Int))) _ rfl MS (zm (r:=2121) (p:=[]) rfl rfl)) MS (zm (r:=2121) (p:=[]) rfl rfl)) MS (zm (r:=2121) (p:=[]) rfl rfl)) (show s22 56=(ji r9.1) from ha22 56 (ji r9.1) _ (show s21 56=(ji r9.1) from ha21 56 (ji r9.1) _ rfl rfl mi) rfl mi) Ev12 rfl) fun h63=>?_
     refine zQ (.agg [ji (w64 (r10.1 - 1)),ji r11.1]) (zx h63 rfl) (zx h62 rfl) (xr (by first | rfl | simp [V.toks,V.tokss,toks_enc,zN])) ?_
     refine gz [(2,bZ 2),(3,.ref (.bx 3) 0 [] (.agg [.sl .nl (shp LI) 0 [],nP])),(5,bG 5 r2.1),(6,.ref (.bx 6) 0 [] (.agg [zh (.at 2120 []) (r4.1.1:NL LI),zh (.at 2121 []) ((NL.set r4.1.2 r9.1.toNat (w64 (r10.1 - 1),r11.1)):NL (Int×Int))]))] ⟨zb (show s22 2=(bZ 2) from ha22 2 (bZ 2) _ (show s21 2=(bZ 2) from ha21 2 (bZ 2) _ (show s20 2=(bZ 2) from ha20 2 _ _ h2 rfl (zi rfl (mIx rfl))) rfl (zi rfl (mIx rfl))) rfl (zi rfl (mIx rfl))) (zj rfl rfl (zK (zf rfl (zf rfl rfl)))),zb (show s22 3=(.ref (.bx 3) 0 [] (.agg [.sl .nl (shp LI) 0 [],nP])) from ha22 3 (.ref (.bx 3) 0 [] (.agg [.sl .nl (shp LI) 0 [],nP])) _ (show s21 3=(.ref (.bx 3) 0 [] (.agg [.sl .nl (shp LI) 0 [],nP])) from ha21 3 (.ref (.bx 3) 0 [] (.agg [.sl .nl (shp LI) 0 [],nP])) _ (show s20 3=(.ref (.bx 3) 0 [] (.agg [.sl .nl (shp LI) 0 [],nP])) from ha20 3 _ _ h3 rfl (zi rfl (zr (zc rfl (zc rfl zk))))) rfl (zi rfl (zr (zc rfl (zc rfl zk))))) rfl (zi rfl (zr (zc rfl (zc rfl zk))))) (zj rfl rfl (zK (zf rfl (zf rfl rfl)))),zb (show s22 5=(bG 5 r2.1) from ha22 5 (bG 5 r2.1) _ (show s21 5=(bG 5 r2.1) from ha21 5 (bG 5 r2.1) _ (show s20 5=(bG 5 r2.1) from ha20 5 _ _ h5 rfl (zi rfl mIE)) rfl (zi rfl mIE)) rfl (zi rfl mIE)) (zj rfl rfl uIE),zb (show s22 6=(.ref (.bx 6) 0 [] (.agg [zh (.at 2120 []) (r4.1.1:NL LI),zh (.at 2121 []) (r4.1.2:NL (Int×Int))])) from ha22 6 (.ref (.bx 6) 0 [] (.agg [zh (.at 2120 []) (r4.1.1:NL LI),zh (.at 2121 []) (r4.1.2:NL (Int×Int))])) _ (show s21 6=(.ref (.bx 6) 0 [] (.agg [zh (.at 2120 []) (r4.1.1:NL LI),zh (.at 2121 []) (r4.1.2:NL (Int×Int))])) from ha21 6 (.ref (.bx 6) 0 [] (.agg [zh (.at 2120 []) (r4.1.1:NL LI),zh (.at 2121 []) (r4.1.2:NL (Int×Int))])) _ (show s20 6=(.ref (.bx 6) 0 [] (.agg [zh (.at 2120 []) (r4.1.1:NL LI),zh (.at 2121 []) (r4.1.2:NL (Int×Int))])) from ha20 6 _ _ h6 rfl (zi rfl (zr (zc (zm (r:=2120) (p:=[]) rfl rfl) (zc (zm (r:=2121) (p:=[]) rfl rfl) zk))))) rfl (zi rfl (zr (zc (zm (r:=2120) (p:=[]) rfl rfl) (zc (zm (r:=2121) (p:=[]) rfl rfl) zk))))) rfl (zi rfl (zr (zc (zm (r:=2120) (p:=[]) rfl rfl) (zc (zm (r:=2121) (p:=[]) rfl rfl) zk))))) (zj rfl rfl (zK (zf (yg rfl rfl) (zf (Lv (α:=(Int×Int)) (u:=(w64 (r10.1 - 1),r11.1)) (i:=r9.1.toNat) (o:=r4.1.2)) rfl))))⟩ ?_
     rintro s ⟨h2,h3,h5,h6⟩
     refine .nbk (.nsq (.seq (rg (g1 5 (gV r2.1) h5 fun h115=>?_))))
     refine N6 (r:=2) (.agg [zh (.at 2120 []) (r4.1.1:NL LI),zh (.at 2121 []) ((NL.set r4.1.2 r9.1.toNat (w64 (r10.1 - 1),r11.1)):NL (Int×Int))]) (Wy h2) (xm (c:=.agg [zh (.at 2120 []) (r4.1.1:NL LI),zh (.at 2121 []) ((NL.set r4.1.2 r9.1.toNat (w64 (r10.1 - 1),r11.1)):NL (Int×Int))]) h6 (by simp [V.shape,V.shapes,zG,Sh.beq,Sh.beqs])) [(6,.ref (.bx 6) 0 [] (.agg [zh (.at 2120 []) (r4.1.1:NL LI),zh (.at 2121 []) ((NL.set r4.1.2 r9.1.toNat (w64 (r10.1 - 1),r11.1)):NL (Int×Int))]))] h6 rfl (by simp [V.live,V.lives,y7,yM (α:=LI) (fun _=>rfl),yM (α:=(Int×Int)) (fun _=>rfl),V.toks,V.tokss,zM,yP,toks_enc,yl,zP,xY,or_imp,y4]) (by simp +contextual [V.toks,V.tokss,zM,toks_enc,yl,zP,xY,or_imp,y4,imp_and,yP]) ?_
     refine zQ (gV r2.1) (zx h2 rfl) (zx h115 rfl) (xr (by first | rfl | simp [V.toks,V.tokss,toks_enc,zN])) (zQ (.agg [zh (.at 2120 []) (r4.1.1:NL LI),zh (.at 2121 []) ((NL.set r4.1.2 r9.1.toNat (w64 (r10.1 - 1),r11.1)):NL (Int×Int))]) (zx (zb h3 (zj rfl rfl (zK (zf rfl (zf rfl rfl))))) rfl) (zx (zb rfl (zK (zf (yg rfl rfl) (zf (yg rfl rfl) rfl)))) rfl) ⟨by decide,by decide,rfl,(by simp [V.shape,V.shapes,zG,Sh.beq,Sh.beqs]),(by simp [V.mut,V.muts,V.shape,V.shapes,zG,Sh.beq,Sh.beqs]),(by simp [V.toks,V.tokss,zN])⟩ (xf ?_))
     refine uq (x:=26) (fun s23 hx_23 hd_23=>yR (r:=2120) (x:=26) (v:=_) (by exact hx_23) rfl (fun s24 hz24=>?_))
     refine ez [(2,bG 2 r2.1),(3,.ref (.bx 3) 0 [] (.agg [zh (.at 26 []) (r4.1.1:NL LI),zh (.at 2121 []) ((NL.set r4.1.2 r9.1.toNat (w64 (r10.1 - 1),r11.1)):NL (Int×Int))]))] ⟨hz24 2 _ _ (show s23 2=(bG 2 r2.1) from (hd_23 2 (by decide)).trans (zb (zb h2 rfl) (zj rfl rfl uIE))) (zi rfl mIE),hz24 3 _ (.ref (.bx 3) 0 [] (.agg [zh (.at 26 []) (r4.1.1:NL LI),zh (.at 2121 []) ((NL.set r4.1.2 r9.1.toNat (w64 (r10.1 - 1),r11.1)):NL (Int×Int))])) (show s23 3=(.ref (.bx 3) 0 [] (.agg [zh (.at 2120 []) (r4.1.1:NL LI),zh (.at 2121 []) ((NL.set r4.1.2 r9.1.toNat (w64 (r10.1 - 1),r11.1)):NL (Int×Int))])) from (hd_23 3 (by decide)).trans (zb (zb h3 (zj rfl rfl (zK (zf rfl (zf rfl rfl))))) rfl)) (zi rfl (zr (zc (zm (r:=2120) (p:=[]) rfl rfl) (zc (zm (r:=2121) (p:=[]) rfl rfl) zk))))⟩ ?_
     rintro s ⟨h2,h3⟩
     refine .nsq (.ret ?_)
     obtain rfl:=oi h
     exact rrB (yL h2 (by kernel_rfl)) (yL h3 (by simp only [V.shape,V.shapes,zG];kernel_rfl)) (ww (uH (zW (w5 (x:=(r2.1:GR))) (zW (uB (zW (xk (o:=r4.1.1)) (zW (xk (o:=NL.set r4.1.2 r9.1.toNat (w64 (r10.1 - 1),r11.1))) xg))) xg))))
   refine .skip (.nbk (.nsq (.seq (rg (g1 5 (gV r2.1) h5 fun h115=>?_)))))
   refine N6 (r:=2) (.agg [zh (.at 2120 []) (r4.1.1:NL LI),zh (.at 2121 []) (r4.1.2:NL (Int×Int))]) (Wy h2) (xm (c:=.agg [zh (.at 2120 []) (r4.1.1:NL LI),zh (.at 2121 []) (r4.1.2:NL (Int×Int))]) h6 (by simp [V.shape,V.shapes,zG,Sh.beq,Sh.beqs])) [(6,.ref (.bx 6) 0 [] (.agg [zh (.at 2120 []) (r4.1.1:NL LI),zh (.at 2121 []) (r4.1.2:NL (Int×Int))]))] h6 rfl (by simp [V.live,V.lives,y7,yM (α:=LI) (fun _=>rfl),yM (α:=(Int×Int)) (fun _=>rfl),V.toks,V.tokss,zM,yP,toks_enc,yl,zP,xY,or_imp,y4]) (by simp +contextual [V.toks,V.tokss,zM,toks_enc,yl,zP,xY,or_imp,y4,imp_and,yP]) ?_
   refine zQ (gV r2.1) (zx h2 rfl) (zx h115 rfl) (xr (by first | rfl | simp [V.toks,V.tokss,toks_enc,zN])) (zQ (.agg [zh (.at 2120 []) (r4.1.1:NL LI),zh (.at 2121 []) (r4.1.2:NL (Int×Int))]) (zx (zb h3 (zj rfl rfl (zK (zf rfl (zf rfl rfl))))) rfl) (zx (zb rfl (zK (zf (yg rfl rfl) (zf (yg rfl rfl) rfl)))) rfl) ⟨by decide,by decide,rfl,(by simp [V.shape,V.shapes,zG,Sh.beq,Sh.beqs]),(by simp [V.mut,V.muts,V.shape,V.shapes,zG,Sh.beq,Sh.beqs]),(by simp [V.toks,V.tokss,zN])⟩ (xf (uq (x:=26) (fun s25 hx_25 hd_25=>?_))))
   refine yR (r:=2120) (x:=26) (v:=_) (by exact hx_25) rfl (fun s26 hz26=>?_)
   refine ez [(2,bG 2 r2.1),(3,.ref (.bx 3) 0 [] (.agg [zh (.at 26 []) (r4.1.1:NL LI),zh (.at 2121 []) (r4.1.2:NL (Int×Int))]))] ⟨hz26 2 _ _ (show s25 2=(bG 2 r2.1) from (hd_25 2 (by decide)).trans (zb (zb h2 rfl) (zj rfl rfl uIE))) (zi rfl mIE),hz26 3 _ (.ref (.bx 3) 0 [] (.agg [zh (.at 26 []) (r4.1.1:NL LI),zh (.at 2121 []) (r4.1.2:NL (Int×Int))])) (show s25 3=(.ref (.bx 3) 0 [] (.agg [zh (.at 2120 []) (r4.1.1:NL LI),zh (.at 2121 []) (r4.1.2:NL (Int×Int))])) from (hd_25 3 (by decide)).trans (zb (zb h3 (zj rfl rfl (zK (zf rfl (zf rfl rfl))))) rfl)) (zi rfl (zr (zc (zm (r:=2120) (p:=[]) rfl rfl) (zc (zm (r:=2121) (p:=[]) rfl rfl) zk))))⟩ ?_
   rintro s ⟨h2,h3⟩
   refine .nsq (.ret ?_)
   obtain rfl:=oi h
   exact rrB (yL h2 (by kernel_rfl)) (yL h3 (by simp only [V.shape,V.shapes,zG];kernel_rfl)) (ww (uH (zW (w5 (x:=(r2.1:GR))) (zW (uB (zW (xk (o:=r4.1.1)) (zW (xk (o:=r4.1.2)) xg))) xg))))
 refine .seq (rg (g1 34 (jb (r6.1 == 2)) h34 fun h65=>gm h65 fun h64=>gq (.nsq (zu h64 h (fun h=>?_) (fun h=>?_)))))
 · refine .seq (zC (yc ?_))
   refine ez [(2,_),(3,_),(5,_),(6,_),(68,_),(69,_),(70,_)] ⟨za h2 rfl (zi rfl (mIx rfl)),za h3 rfl (zi rfl (zr (zc rfl (zc rfl zk)))),za h5 rfl (zi rfl mIE),za h6 rfl (zi rfl (zr (zc (zm (r:=2120) (p:=[]) rfl rfl) (zc (zm (r:=2121) (p:=[]) rfl rfl) zk)))),zg rfl,zg rfl,zg rfl⟩ ?_
   rintro s ⟨h2,h3,h5,h6,h68,h69,h70⟩
   refine g1 6 (.ref (.bx 6) 0 [0] (zh (.at 2120 []) (r4.1.1:NL LI))) h6 fun h66=>gv (zh (.at 2120 []) (r4.1.1:NL LI)) (xm h66 w7) fun h67=>?_
   refine KO [] ([]:LI) trivial rfl rfl rfl h68 (fun s28 hd_28 hl_28=>xv [(68,eL [])] [enc ([]:LI)] (show s28 68=(eL []) from hd_28) rfl rfl (show s28 69 = .gone from (hl_28 69 (by decide)).trans h69) ?_)
   obtain ⟨ap13,Eap13,h⟩:=zd h
   refine ZG (q:=2120) (p:=[]) (o:=(r4.1.1:NL LI)) (ys:=([[]]:List LI)) (t2:=.at 69 []) (lo2:=0) (show s28 67=(zh (.at 2120 []) (r4.1.1:NL LI)) from (hl_28 67 (by decide)).trans h67) rfl rfl (show s28 70 = .gone from (hl_28 70 (by decide)).trans h70) (vK (o:=(r4.1.1:NL LI)) Eap13 (by split <;> simp)) (fun s29 ha29=>?_)
   refine g1 6 (.ref (.bx 6) 0 [0] (kdO (r4.1.1:NL LI))) (show s29 6=(.ref (.bx 6) 0 [] (.agg [kdO (r4.1.1:NL LI),zh (.at 2121 []) (r4.1.2:NL (Int×Int))])) from xG ha29 (show s28 6=(.ref (.bx 6) 0 [] (.agg [zh (.at 2120 []) (r4.1.1:NL LI),zh (.at 2121 []) (r4.1.2:NL (Int×Int))])) from (hl_28 6 (by decide)).trans h6) (zi rfl (zr (zc wX (zc (zm (r:=2121) (p:=[]) rfl rfl) zk)))) (by intro h;first | (cases h;done) | (subst h;rfl) | (rw [h];rfl))) fun h71=>zQ (zh (.at 70 []) (.of (ap13:List LI))) (zx h71 rfl) (zx rfl rfl) ⟨by decide,by decide,rfl,rfl,YQ,ui rfl rfl⟩ (xf ?_)
   refine uq (x:=2120) (fun s30 hx_30 hd_30=>yR (r:=70) (x:=2120) (v:=_) (by exact hx_30) rfl (fun s31 hz31=>?_))
   refine ez [(2,bZ 2),(3,.ref (.bx 3) 0 [] (.agg [.sl .nl (shp LI) 0 [],nP])),(5,bG 5 r2.1),(6,.ref (.bx 6) 0 [] (.agg [zh (.at 2120 []) (.of (ap13:List LI)),zh (.at 2121 []) (r4.1.2:NL (Int×Int))]))] ⟨hz31 2 _ _ (show s30 2=(bZ 2) from (hd_30 2 (by decide)).trans (zb (show s29 2=(bZ 2) from zF ha29 (show s28 2=(bZ 2) from (hl_28 2 (by decide)).trans h2) (zi rfl (mIx rfl))) (zj rfl rfl (zK (zf rfl (zf rfl rfl)))))) (zi rfl (mIx rfl)),hz31 3 _ _ (show s30 3=(.ref (.bx 3) 0 [] (.agg [.sl .nl (shp LI) 0 [],nP])) from (hd_30 3 (by decide)).trans (zb (show s29 3=(.ref (.bx 3) 0 [] (.agg [.sl .nl (shp LI) 0 [],nP])) from zF ha29 (show s28 3=(.ref (.bx 3) 0 [] (.agg [.sl .nl (shp LI) 0 [],nP])) from (hl_28 3 (by decide)).trans h3) (zi rfl (zr (zc rfl (zc rfl zk))))) (zj rfl rfl (zK (zf rfl (zf rfl rfl)))))) (zi rfl (zr (zc rfl (zc rfl zk)))),hz31 5 _ _ (show s30 5=(bG 5 r2.1) from (hd_30 5 (by decide)).trans (zb (show s29 5=(bG 5 r2.1) from zF ha29 (show s28 5=(bG 5 r2.1) from (hl_28 5 (by decide)).trans h5) (zi rfl mIE)) (zj rfl rfl uIE))) (zi rfl mIE),hz31 6 _ (.ref (.bx 6) 0 [] (.agg [zh (.at 2120 []) (.of (ap13:List LI)),zh (.at 2121 []) (r4.1.2:NL (Int×Int))])) (show s30 6=(.ref (.bx 6) 0 [] (.agg [zh (.at 70 []) (.of (ap13:List LI)),zh (.at 2121 []) (r4.1.2:NL (Int×Int))])) from (hd_30 6 (by decide)).trans (zb (show s29 6=(.ref (.bx 6) 0 [] (.agg [kdO (r4.1.1:NL LI),zh (.at 2121 []) (r4.1.2:NL (Int×Int))])) from xG ha29 (show s28 6=(.ref (.bx 6) 0 [] (.agg [zh (.at 2120 []) (r4.1.1:NL LI),zh (.at 2121 []) (r4.1.2:NL (Int×Int))])) from (hl_28 6 (by decide)).trans h6) (zi rfl (zr (zc wX (zc (zm (r:=2121) (p:=[]) rfl rfl) zk)))) (by intro h;first | (cases h;done) | (subst h;rfl) | (rw [h];rfl))) (u6 (zf YS (zf (yg rfl rfl) rfl))))) (zi rfl (zr (zc (zm (r:=70) (p:=[]) rfl rfl) (zc (zm (r:=2121) (p:=[]) rfl rfl) zk))))⟩ ?_
   rintro s ⟨h2,h3,h5,h6⟩
   refine .nsq (zC (yc ?_))
   refine ez [(2,_),(3,_),(5,_),(6,_),(83,_),(84,_)] ⟨za h2 rfl (zi rfl (mIx rfl)),za h3 rfl (zi rfl (zr (zc rfl (zc rfl zk)))),za h5 rfl (zi rfl mIE),za h6 rfl (zi rfl (zr (zc (zm (r:=2120) (p:=[]) rfl rfl) (zc (zm (r:=2121) (p:=[]) rfl rfl) zk)))),zg rfl,zg rfl⟩ ?_
   rintro s ⟨h2,h3,h5,h6,h83,h84⟩
   refine g1 6 (.ref (.bx 6) 0 [1] (zh (.at 2121 []) (r4.1.2:NL (Int×Int)))) h6 fun h72=>gv (zh (.at 2121 []) (r4.1.2:NL (Int×Int))) (xm h72 w7) fun h73=>g1 6 (.ref (.bx 6) 0 [0] (zh (.at 2120 []) (.of (ap13:List LI)))) h6 fun h74=>g1 74 (zh (.at 2120 []) (.of (ap13:List LI))) h74 fun h75=>gv (ji (ap13.length:Int)) (YN (o:=.of ap13) h75) fun h76=>g1 76 (ji (w64 ((ap13.length:Int) - 2))) h76 fun h77=>g1 6 (.ref (.bx 6) 0 [0] (zh (.at 2120 []) (.of (ap13:List LI)))) h6 fun h78=>g1 78 (zh (.at 2120 []) (.of (ap13:List LI))) h78 fun h79=>gv (ji (ap13.length:Int)) (YN (o:=.of ap13) h79) fun h80=>?_
   refine g1 80 (ji (w64 ((ap13.length:Int) - 1))) h80 fun h81=>g2 77 81 (.agg [ji (w64 ((ap13.length:Int) - 2)),ji (w64 ((ap13.length:Int) - 1))]) h77 h81 fun h82=>xv [(82,.agg [ji (w64 ((ap13.length:Int) - 2)),ji (w64 ((ap13.length:Int) - 1))])] [enc ((w64 ((ap13.length:Int) - 2),w64 ((ap13.length:Int) - 1)):(Int×Int))] h82 rfl rfl h83 ?_
   obtain ⟨ap14,Eap14,h⟩:=zd h
   refine ZG (q:=2121) (p:=[]) (o:=(r4.1.2:NL (Int×Int))) (ys:=([(w64 ((ap13.length:Int) - 2),w64 ((ap13.length:Int) - 1))]:TP)) (t2:=.at 83 []) (lo2:=0) h73 rfl rfl h84 (vK (o:=(r4.1.2:NL (Int×Int))) Eap14 (by split <;> simp)) (fun s33 ha33=>g1 6 (.ref (.bx 6) 0 [1] (kdO (r4.1.2:NL (Int×Int)))) (show s33 6=(.ref (.bx 6) 0 [] (.agg [zh (.at 2120 []) (.of (ap13:List LI)),kdO (r4.1.2:NL (Int×Int))])) from xG ha33 h6 (zi rfl (zr (zc (zm (r:=2120) (p:=[]) rfl rfl) (zc wX zk)))) (by intro h;first | (cases h;done) | (subst h;rfl) | (rw [h];rfl))) fun h85=>?_)
   refine zQ (zh (.at 84 []) (.of (ap14:TP))) (zx h85 rfl) (zx rfl rfl) ⟨by decide,by decide,rfl,rfl,YQ,ui rfl rfl⟩ (xf (uq (x:=2121) (fun s34 hx_34 hd_34=>yR (r:=84) (x:=2121) (v:=_) (by exact hx_34) rfl (fun s35 hz35=>?_))))
   refine ez [(2,bZ 2),(3,.ref (.bx 3) 0 [] (.agg [.sl .nl (shp LI) 0 [],nP])),(5,bG 5 r2.1),(6,.ref (.bx 6) 0 [] (.agg [zh (.at 2120 []) (.of (ap13:List LI)),zh (.at 2121 []) (.of (ap14:TP))]))] ⟨hz35 2 _ _ (show s34 2=(bZ 2) from (hd_34 2 (by decide)).trans (zb (show s33 2=(bZ 2) from zF ha33 h2 (zi rfl (mIx rfl))) (zj rfl rfl (zK (zf rfl (zf rfl rfl)))))) (zi rfl (mIx rfl)),hz35 3 _ _ (show s34 3=(.ref (.bx 3) 0 [] (.agg [.sl .nl (shp LI) 0 [],nP])) from (hd_34 3 (by decide)).trans (zb (show s33 3=(.ref (.bx 3) 0 [] (.agg [.sl .nl (shp LI) 0 [],nP])) from zF ha33 h3 (zi rfl (zr (zc rfl (zc rfl zk))))) (zj rfl rfl (zK (zf rfl (zf rfl rfl)))))) (zi rfl (zr (zc rfl (zc rfl zk)))),hz35 5 _ _ (show s34 5=(bG 5 r2.1) from (hd_34 5 (by decide)).trans (zb (show s33 5=(bG 5 r2.1) from zF ha33 h5 (zi rfl mIE)) (zj rfl rfl uIE))) (zi rfl mIE),hz35 6 _ (.ref (.bx 6) 0 [] (.agg [zh (.at 2120 []) (.of (ap13:List LI)),zh (.at 2121 []) (.of (ap14:TP))])) (show s34 6=(.ref (.bx 6) 0 [] (.agg [zh (.at 2120 []) (.of (ap13:List LI)),zh (.at 84 []) (.of (ap14:TP))])) from (hd_34 6 (by decide)).trans (zb (show s33 6=(.ref (.bx 6) 0 [] (.agg [zh (.at 2120 []) (.of (ap13:List LI)),kdO (r4.1.2:NL (Int×Int))])) from xG ha33 h6 (zi rfl (zr (zc (zm (r:=2120) (p:=[]) rfl rfl) (zc wX zk)))) (by intro h;first | (cases h;done) | (subst h;rfl) | (rw [h];rfl))) (u6 (zf (yg rfl rfl) (zf YS rfl))))) (zi rfl (zr (zc (zm (r:=2120) (p:=[]) rfl rfl) (zc (zm (r:=84) (p:=[]) rfl rfl) zk))))⟩ ?_
   rintro s ⟨h2,h3,h5,h6⟩
   refine .nbk (.nsq (.seq (rg (g1 5 (gV r2.1) h5 fun h115=>?_))))
   refine N6 (r:=2) (.agg [zh (.at 2120 []) (.of (ap13:List LI)),zh (.at 2121 []) (.of (ap14:TP))]) (Wy h2) (u7 [(6,.ref (.bx 6) 0 [] (.agg [zh (.at 2120 []) (.of (ap13:List LI)),zh (.at 2121 []) (.of (ap14:TP))]))] h6 rfl rfl) [(6,.ref (.bx 6) 0 [] (.agg [zh (.at 2120 []) (.of (ap13:List LI)),zh (.at 2121 []) (.of (ap14:TP))]))] h6 rfl (by simp [V.live,V.lives,y7,yM (α:=LI) (fun _=>rfl),yM (α:=(Int×Int)) (fun _=>rfl),V.toks,V.tokss,zM,yP,toks_enc,yl,zP,xY,or_imp,y4]) (by simp +contextual [V.toks,V.tokss,zM,toks_enc,yl,zP,xY,or_imp,y4,imp_and,yP]) ?_
   refine zQ (gV r2.1) (zx h2 rfl) (zx h115 rfl) (xr (by first | rfl | simp [V.toks,V.tokss,toks_enc,zN])) (zQ (.agg [zh (.at 2120 []) (.of (ap13:List LI)),zh (.at 2121 []) (.of (ap14:TP))]) (zx (zb h3 (zj rfl rfl (zK (zf rfl (zf rfl rfl))))) rfl) (zx (zb rfl (zK (zf (yg rfl rfl) (zf (yg rfl rfl) rfl)))) rfl) (xr (by first | rfl | simp [V.toks,V.tokss,toks_enc,zN])) (xf (uq (x:=26) (fun s36 hx_36 hd_36=>yR (r:=2120) (x:=26) (v:=_) (by exact hx_36) rfl (fun s37 hz37=>?_)))))
   refine ez [(2,bG 2 r2.1),(3,.ref (.bx 3) 0 [] (.agg [zh (.at 26 []) (.of (ap13:List LI)),zh (.at 2121 []) (.of (ap14:TP))]))] ⟨hz37 2 _ _ (show s36 2=(bG 2 r2.1) from (hd_36 2 (by decide)).trans (zb (zb h2 rfl) (zj rfl rfl uIE))) (zi rfl mIE),hz37 3 _ (.ref (.bx 3) 0 [] (.agg [zh (.at 26 []) (.of (ap13:List LI)),zh (.at 2121 []) (.of (ap14:TP))])) (show s36 3=(.ref (.bx 3) 0 [] (.agg [zh (.at 2120 []) (.of (ap13:List LI)),zh (.at 2121 []) (.of (ap14:TP))])) from (hd_36 3 (by decide)).trans (zb (zb h3 (zj rfl rfl (zK (zf rfl (zf rfl rfl))))) rfl)) (zi rfl (zr (zc (zm (r:=2120) (p:=[]) rfl rfl) (zc (zm (r:=2121) (p:=[]) rfl rfl) zk))))⟩ ?_
   rintro s ⟨h2,h3⟩
   refine .nsq (.ret ?_)
   obtain rfl:=oi h
   exact rrB (yL h2 (by kernel_rfl)) (yL h3 (by kernel_rfl)) (ww (uH (zW (w5 (x:=(r2.1:GR))) (zW (uB (zW (xk (o:=.of ap13)) (zW (xk (o:=.of ap14)) xg))) xg))))
 refine .seq (rg (g1 34 (jb (r6.1 == 3)) h34 fun h87=>gm h87 fun h86=>gq (.nsq (zu h86 h (fun h=>?_) (fun h=>?_)))))
 · refine .seq (rg (g1 6 (.ref (.bx 6) 0 [0] (zh (.at 2120 []) (r4.1.1:NL LI))) h6 fun h88=>gv (zh (.at 2120 []) (r4.1.1:NL LI)) (xm h88 w7) fun h89=>gm h8 fun h90=>?_))
   obtain ⟨v15,Ev15,h⟩:=zd h
   refine gv (.ref (.at 2120 []) r5.1.toNat [] (eL v15)) (vi (o:=r4.1.1) h89 h90 Ev15 rfl) fun h91=>g1 91 (eL v15) h91 fun h92=>gl v15 h92 fun h93=>g1 93 (jb (decide ((v15.length:Int) > 0))) h93 fun h94=>gq (.nsq (zu h94 h (fun h=>?_) (fun h=>?_)))
   · refine rg (g1 6 (.ref (.bx 6) 0 [0] (zh (.at 2120 []) (r4.1.1:NL LI))) h6 fun h95=>gv (zh (.at 2120 []) (r4.1.1:NL LI)) (xm h95 w7) fun h96=>gm h8 fun h97=>g1 6 (.ref (.bx 6) 0 [0] (zh (.at 2120 []) (r4.1.1:NL LI))) h6 fun h98=>gv (zh (.at 2120 []) (r4.1.1:NL LI)) (xm h98 w7) fun h99=>gm h8 fun h100=>?_)
     obtain ⟨v16,Ev16,h⟩:=zd h
     refine gv (.ref (.at 2120 []) r5.1.toNat [] (eL v16)) (vi (o:=r4.1.1) h99 h100 Ev16 rfl) fun h101=>g1 101 (eL v16) h101 fun h102=>?_
     obtain ⟨sub17,Esub17,h⟩:=zd h
     refine gv (eL sub17) (X2 (xs:=v16) h102 (Ze rfl) (u9) Esub17 rfl) fun h103=>?_
     obtain ⟨v18,Ev18,h⟩:=zd h
     refine gv (.ref (.at 2120 []) r5.1.toNat [] (eL v18)) (vi (o:=r4.1.1) h96 h97 Ev18 rfl) fun h104=>zQ (eL sub17) (zx h104 rfl) (zx h103 rfl) (xr (by first | rfl | simp [V.toks,V.tokss,toks_enc,zN])) ?_
     refine gz [(2,bZ 2),(3,.ref (.bx 3) 0 [] (.agg [.sl .nl (shp LI) 0 [],nP])),(5,bG 5 r2.1),(6,.ref (.bx 6) 0 [] (.agg [zh (.at 2120 []) ((NL.set r4.1.1 r5.1.toNat sub17):NL LI),zh (.at 2121 []) (r4.1.2:NL (Int×Int))]))] ⟨zb h2 (zj rfl rfl (zK (zf rfl (zf rfl rfl)))),zb h3 (zj rfl rfl (zK (zf rfl (zf rfl rfl)))),zb h5 (zj rfl rfl uIE),zb h6 (zj rfl rfl (zK (zf (Lv (α:=LI) (u:=sub17) (i:=r5.1.toNat) (o:=r4.1.1)) (zf (yg rfl rfl) rfl))))⟩ ?_
     rintro s ⟨h2,h3,h5,h6⟩
     refine .nbk (.nsq (.seq (rg (g1 5 (gV r2.1) h5 fun h115=>?_))))
     refine N6 (r:=2) (.agg [zh (.at 2120 []) ((NL.set r4.1.1 r5.1.toNat sub17):NL LI),zh (.at 2121 []) (r4.1.2:NL (Int×Int))]) (Wy h2) (xm (c:=.agg [zh (.at 2120 []) ((NL.set r4.1.1 r5.1.toNat sub17):NL LI),zh (.at 2121 []) (r4.1.2:NL (Int×Int))]) h6 (by simp [V.shape,V.shapes,zG,Sh.beq,Sh.beqs])) [(6,.ref (.bx 6) 0 [] (.agg [zh (.at 2120 []) ((NL.set r4.1.1 r5.1.toNat sub17):NL LI),zh (.at 2121 []) (r4.1.2:NL (Int×Int))]))] h6 rfl (by simp [V.live,V.lives,y7,yM (α:=LI) (fun _=>rfl),yM (α:=(Int×Int)) (fun _=>rfl),V.toks,V.tokss,zM,yP,toks_enc,yl,zP,xY,or_imp,y4]) (by simp +contextual [V.toks,V.tokss,zM,toks_enc,yl,zP,xY,or_imp,y4,imp_and,yP]) ?_
     refine zQ (gV r2.1) (zx h2 rfl) (zx h115 rfl) (xr (by first | rfl | simp [V.toks,V.tokss,toks_enc,zN])) (zQ (.agg [zh (.at 2120 []) ((NL.set r4.1.1 r5.1.toNat sub17):NL LI),zh (.at 2121 []) (r4.1.2:NL (Int×Int))]) (zx (zb h3 (zj rfl rfl (zK (zf rfl (zf rfl rfl))))) rfl) (zx (zb rfl (zK (zf (yg rfl rfl) (zf (yg rfl rfl) rfl)))) rfl) ⟨by decide,by decide,rfl,(by simp [V.shape,V.shapes,zG,Sh.beq,Sh.beqs]),(by simp [V.mut,V.muts,V.shape,V.shapes,zG,Sh.beq,Sh.beqs]),(by simp [V.toks,V.tokss,zN])⟩ (xf ?_))
     refine uq (x:=26) (fun s38 hx_38 hd_38=>yR (r:=2120) (x:=26) (v:=_) (by exact hx_38) rfl (fun s39 hz39=>?_))
     refine ez [(2,bG 2 r2.1),(3,.ref (.bx 3) 0 [] (.agg [zh (.at 26 []) ((NL.set r4.1.1 r5.1.toNat sub17):NL LI),zh (.at 2121 []) (r4.1.2:NL (Int×Int))]))] ⟨hz39 2 _ _ (show s38 2=(bG 2 r2.1) from (hd_38 2 (by decide)).trans (zb (zb h2 rfl) (zj rfl rfl uIE))) (zi rfl mIE),hz39 3 _ (.ref (.bx 3) 0 [] (.agg [zh (.at 26 []) ((NL.set r4.1.1 r5.1.toNat sub17):NL LI),zh (.at 2121 []) (r4.1.2:NL (Int×Int))])) (show s38 3=(.ref (.bx 3) 0 [] (.agg [zh (.at 2120 []) ((NL.set r4.1.1 r5.1.toNat sub17):NL LI),zh (.at 2121 []) (r4.1.2:NL (Int×Int))])) from (hd_38 3 (by decide)).trans (zb (zb h3 (zj rfl rfl (zK (zf rfl (zf rfl rfl))))) rfl)) (zi rfl (zr (zc (zm (r:=2120) (p:=[]) rfl rfl) (zc (zm (r:=2121) (p:=[]) rfl rfl) zk))))⟩ ?_
     rintro s ⟨h2,h3⟩
     refine .nsq (.ret ?_)
     obtain rfl:=oi h
     exact rrB (yL h2 (by kernel_rfl)) (yL h3 (by simp only [V.shape,V.shapes,zG];kernel_rfl)) (ww (uH (zW (w5 (x:=(r2.1:GR))) (zW (uB (zW (xk (o:=NL.set r4.1.1 r5.1.toNat sub17)) (zW (xk (o:=r4.1.2)) xg))) xg))))
   refine .skip (.nbk (.nsq (.seq (rg (g1 5 (gV r2.1) h5 fun h115=>?_)))))
   refine N6 (r:=2) (.agg [zh (.at 2120 []) (r4.1.1:NL LI),zh (.at 2121 []) (r4.1.2:NL (Int×Int))]) (Wy h2) (xm (c:=.agg [zh (.at 2120 []) (r4.1.1:NL LI),zh (.at 2121 []) (r4.1.2:NL (Int×Int))]) h6 (by simp [V.shape,V.shapes,zG,Sh.beq,Sh.beqs])) [(6,.ref (.bx 6) 0 [] (.agg [zh (.at 2120 []) (r4.1.1:NL LI),zh (.at 2121 []) (r4.1.2:NL (Int×Int))]))] h6 rfl (by simp [V.live,V.lives,y7,yM (α:=LI) (fun _=>rfl),yM (α:=(Int×Int)) (fun _=>rfl),V.toks,V.tokss,zM,yP,toks_enc,yl,zP,xY,or_imp,y4]) (by simp +contextual [V.toks,V.tokss,zM,toks_enc,yl,zP,xY,or_imp,y4,imp_and,yP]) ?_
   refine zQ (gV r2.1) (zx h2 rfl) (zx h115 rfl) (xr (by first | rfl | simp [V.toks,V.tokss,toks_enc,zN])) (zQ (.agg [zh (.at 2120 []) (r4.1.1:NL LI),zh (.at 2121 []) (r4.1.2:NL (Int×Int))]) (zx (zb h3 (zj rfl rfl (zK (zf rfl (zf rfl rfl))))) rfl) (zx (zb rfl (zK (zf (yg rfl rfl) (zf (yg rfl rfl) rfl)))) rfl) ⟨by decide,by decide,rfl,(by simp [V.shape,V.shapes,zG,Sh.beq,Sh.beqs]),(by simp [V.mut,V.muts,V.shape,V.shapes,zG,Sh.beq,Sh.beqs]),(by simp [V.toks,V.tokss,zN])⟩ (xf (uq (x:=26) (fun s40 hx_40 hd_40=>?_))))
   refine yR (r:=2120) (x:=26) (v:=_) (by exact hx_40) rfl (fun s41 hz41=>?_)
   refine ez [(2,bG 2 r2.1),(3,.ref (.bx 3) 0 [] (.agg [zh (.at 26 []) (r4.1.1:NL LI),zh (.at 2121 []) (r4.1.2:NL (Int×Int))]))] ⟨hz41 2 _ _ (show s40 2=(bG 2 r2.1) from (hd_40 2 (by decide)).trans (zb (zb h2 rfl) (zj rfl rfl uIE))) (zi rfl mIE),hz41 3 _ (.ref (.bx 3) 0 [] (.agg [zh (.at 26 []) (r4.1.1:NL LI),zh (.at 2121 []) (r4.1.2:NL (Int×Int))])) (show s40 3=(.ref (.bx 3) 0 [] (.agg [zh (.at 2120 []) (r4.1.1:NL LI),zh (.at 2121 []) (r4.1.2:NL (Int×Int))])) from (hd_40 3 (by decide)).trans (zb (zb h3 (zj rfl rfl (zK (zf rfl (zf rfl rfl))))) rfl)) (zi rfl (zr (zc (zm (r:=2120) (p:=[]) rfl rfl) (zc (zm (r:=2121) (p:=[]) rfl rfl) zk))))⟩ ?_
   rintro s ⟨h2,h3⟩
   refine .nsq (.ret ?_)
   obtain rfl:=oi h
   exact rrB (yL h2 (by kernel_rfl)) (yL h3 (by simp only [V.shape,V.shapes,zG];kernel_rfl)) (ww (uH (zW (w5 (x:=(r2.1:GR))) (zW (uB (zW (xk (o:=r4.1.1)) (zW (xk (o:=r4.1.2)) xg))) xg))))
 refine .seq (rg (g1 34 (jb (r6.1 == 4)) h34 fun h106=>gm h106 fun h105=>gq (.nsq (zu h105 h (fun h=>?_) (fun h=>?_)))))
 · refine .seq (rg (gv (.ref (.bx 6) 0 [1] (zh (.at 2121 []) (r4.1.2:NL (Int×Int)))) (Ku (v:=zh (.at 2121 []) (r4.1.2:NL (Int×Int))) h6 rfl (by simp [V.shape,V.shapes,zG,Sh.size,Sh.sizes])) fun h107=>gv (zh (.at 2121 []) (r4.1.2:NL (Int×Int))) (xm h107 w7) fun h108=>gv (ji (r4.1.2.list.length:Int)) (YN (o:=r4.1.2) h108) fun h109=>g1 109 (jb (decide ((r4.1.2.list.length:Int) > 0))) h109 fun h110=>gq (.nsq (zu h110 h (fun h=>?_) (fun h=>?_)))))
   · refine rg (gv (.ref (.bx 6) 0 [1] (zh (.at 2121 []) (r4.1.2:NL (Int×Int)))) (Ku (v:=zh (.at 2121 []) (r4.1.2:NL (Int×Int))) h6 rfl (by simp [V.shape,V.shapes,zG,Sh.size,Sh.sizes])) fun h111=>gv (zh (.at 2121 []) (r4.1.2:NL (Int×Int))) (xm h111 w7) fun h112=>?_)
     obtain ⟨li19,Eli19,h⟩:=zd h
     obtain ⟨sub20,Esub20,h⟩:=zd h
     refine gv (.sl (.at 2121 []) (shp (Int×Int)) (Int.toNat 1) ((sub20:TP).map enc)) (Mg (xs:=li19) (Q2 Eli19 h112) (Ze rfl) (u9) Esub20 rfl) fun h113=>gv (.ref (.bx 6) 0 [1] (zh (.at 2121 []) (.of (li19:TP)))) (Ku (v:=zh (.at 2121 []) (.of (li19:TP))) (Eq.trans h6 (congrArg (fun (o_:NL (Int×Int))=>((.ref (.bx 6) 0 [] (.agg [zh (.at 2120 []) (r4.1.1:NL LI),zh (.at 2121 []) (o_:NL (Int×Int))])):V)) (MX Eli19))) rfl (by simp [V.shape,V.shapes,zG,Sh.size,Sh.sizes])) fun h114=>?_
     refine zQ (.sl (.at 2121 []) (shp (Int×Int)) (Int.toNat 1) ((sub20:TP).map enc)) (zx h114 rfl) (zx h113 rfl) (xr (by first | rfl | simp [V.toks,V.tokss,toks_enc,zN])) ?_
     refine gz [(2,bZ 2),(3,.ref (.bx 3) 0 [] (.agg [.sl .nl (shp LI) 0 [],nP])),(5,bG 5 r2.1),(6,.ref (.bx 6) 0 [] (.agg [zh (.at 2120 []) (r4.1.1:NL LI),.sl (.at 2121 []) (shp (Int×Int)) (Int.toNat 1) ((sub20:TP).map enc)]))] ⟨zb h2 (zj rfl rfl (zK (zf rfl (zf rfl rfl)))),zb h3 (zj rfl rfl (zK (zf rfl (zf rfl rfl)))),zb h5 (zj rfl rfl uIE),zb (Eq.trans h6 (congrArg (fun (o_:NL (Int×Int))=>((.ref (.bx 6) 0 [] (.agg [zh (.at 2120 []) (r4.1.1:NL LI),zh (.at 2121 []) (o_:NL (Int×Int))])):V)) (MX Eli19))) (u6 (zf (yg rfl rfl) (zf (yg rfl rfl) rfl)))⟩ ?_
     rintro s ⟨h2,h3,h5,h6⟩
     refine .nbk (.nsq (.seq (rg (g1 5 (gV r2.1) h5 fun h115=>?_))))
     refine N6 (r:=2) (.agg [zh (.at 2120 []) (r4.1.1:NL LI),.sl (.at 2121 []) (shp (Int×Int)) (Int.toNat 1) ((sub20:TP).map enc)]) (Wy h2) (xm (c:=.agg [zh (.at 2120 []) (r4.1.1:NL LI),.sl (.at 2121 []) (shp (Int×Int)) (Int.toNat 1) ((sub20:TP).map enc)]) h6 (by simp [V.shape,V.shapes,zG,Sh.beq,Sh.beqs])) [(6,.ref (.bx 6) 0 [] (.agg [zh (.at 2120 []) (r4.1.1:NL LI),.sl (.at 2121 []) (shp (Int×Int)) (Int.toNat 1) ((sub20:TP).map enc)]))] h6 rfl (by simp [V.live,V.lives,y7,yM (α:=LI) (fun _=>rfl),Jt (α:=LI) (fun _=>rfl),yM (α:=(Int×Int)) (fun _=>rfl),Jt (α:=(Int×Int)) (fun _=>rfl),V.toks,V.tokss,zM,yP,toks_enc,yl,zP,xY,or_imp,y4]) (by simp +contextual [V.toks,V.tokss,zM,toks_enc,yl,zP,xY,or_imp,y4,imp_and,yP]) ?_
     refine zQ (gV r2.1) (zx h2 rfl) (zx h115 rfl) (xr (by first | rfl | simp [V.toks,V.tokss,toks_enc,zN])) ?_
     refine zQ (.agg [zh (.at 2120 []) (r4.1.1:NL LI),.sl (.at 2121 []) (shp (Int×Int)) (Int.toNat 1) ((sub20:TP).map enc)]) (zx (zb h3 (zj rfl rfl (zK (zf rfl (zf rfl rfl))))) rfl) (zx (zb rfl (zK (zf (yg rfl rfl) (zf (X8 (by decide) _ (by simp [V.toks,yl])) rfl)))) rfl) ⟨by decide,by decide,rfl,(by simp [V.shape,V.shapes,zG,Sh.beq,Sh.beqs]),(by simp [V.mut,V.muts,V.shape,V.shapes,zG,Sh.beq,Sh.beqs]),(by simp [V.toks,V.tokss,zN,yl])⟩ (xf (uq (x:=26) (fun s42 hx_42 hd_42=>?_)))
     refine yR (r:=2120) (x:=26) (v:=_) (by exact hx_42) rfl (fun s43 hz43=>?_)
     refine ez [(2,bG 2 r2.1),(3,.ref (.bx 3) 0 [] (.agg [zh (.at 26 []) (r4.1.1:NL LI),.sl (.at 2121 []) (shp (Int×Int)) (Int.toNat 1) ((sub20:TP).map enc)]))] ⟨hz43 2 _ _ (show s42 2=(bG 2 r2.1) from (hd_42 2 (by decide)).trans (zb (zb h2 rfl) (zj rfl rfl uIE))) (zi rfl mIE),hz43 3 _ (.ref (.bx 3) 0 [] (.agg [zh (.at 26 []) (r4.1.1:NL LI),.sl (.at 2121 []) (shp (Int×Int)) (Int.toNat 1) ((sub20:TP).map enc)])) (show s42 3=(.ref (.bx 3) 0 [] (.agg [zh (.at 2120 []) (r4.1.1:NL LI),.sl (.at 2121 []) (shp (Int×Int)) (Int.toNat 1) ((sub20:TP).map enc)])) from (hd_42 3 (by decide)).trans (zb (zb h3 (zj rfl rfl (zK (zf rfl (zf rfl rfl))))) rfl)) (zi rfl (zr (zc (zm (r:=2120) (p:=[]) rfl rfl) (zc (zlD (xs:=(sub20:TP)) rfl) zk))))⟩ ?_
     rintro s ⟨h2,h3⟩
     refine .nsq (.ret ?_)
     obtain rfl:=oi h
     exact rrB (yL h2 (by kernel_rfl)) (yL h3 (by simp only [V.shape,V.shapes,zG];kernel_rfl)) (ww (uH (zW (w5 (x:=(r2.1:GR))) (zW (uB (zW (xk (o:=r4.1.1)) (zW (zlq (xs:=(sub20:TP))) xg))) xg))))
   refine .skip (.nbk (.nsq (.seq (rg (g1 5 (gV r2.1) h5 fun h115=>?_)))))
   refine N6 (r:=2) (.agg [zh (.at 2120 []) (r4.1.1:NL LI),zh (.at 2121 []) (r4.1.2:NL (Int×Int))]) (Wy h2) (xm (c:=.agg [zh (.at 2120 []) (r4.1.1:NL LI),zh (.at 2121 []) (r4.1.2:NL (Int×Int))]) h6 (by simp [V.shape,V.shapes,zG,Sh.beq,Sh.beqs])) [(6,.ref (.bx 6) 0 [] (.agg [zh (.at 2120 []) (r4.1.1:NL LI),zh (.at 2121 []) (r4.1.2:NL (Int×Int))]))] h6 rfl (by simp [V.live,V.lives,y7,yM (α:=LI) (fun _=>rfl),yM (α:=(Int×Int)) (fun _=>rfl),V.toks,V.tokss,zM,yP,toks_enc,yl,zP,xY,or_imp,y4]) (by simp +contextual [V.toks,V.tokss,zM,toks_enc,yl,zP,xY,or_imp,y4,imp_and,yP]) ?_
   refine zQ (gV r2.1) (zx h2 rfl) (zx h115 rfl) (xr (by first | rfl | simp [V.toks,V.tokss,toks_enc,zN])) (zQ (.agg [zh (.at 2120 []) (r4.1.1:NL LI),zh (.at 2121 []) (r4.1.2:NL (Int×Int))]) (zx (zb h3 (zj rfl rfl (zK (zf rfl (zf rfl rfl))))) rfl) (zx (zb rfl (zK (zf (yg rfl rfl) (zf (yg rfl rfl) rfl)))) rfl) ⟨by decide,by decide,rfl,(by simp [V.shape,V.shapes,zG,Sh.beq,Sh.beqs]),(by simp [V.mut,V.muts,V.shape,V.shapes,zG,Sh.beq,Sh.beqs]),(by simp [V.toks,V.tokss,zN])⟩ (xf (uq (x:=26) (fun s44 hx_44 hd_44=>?_))))
   refine yR (r:=2120) (x:=26) (v:=_) (by exact hx_44) rfl (fun s45 hz45=>?_)
   refine ez [(2,bG 2 r2.1),(3,.ref (.bx 3) 0 [] (.agg [zh (.at 26 []) (r4.1.1:NL LI),zh (.at 2121 []) (r4.1.2:NL (Int×Int))]))] ⟨hz45 2 _ _ (show s44 2=(bG 2 r2.1) from (hd_44 2 (by decide)).trans (zb (zb h2 rfl) (zj rfl rfl uIE))) (zi rfl mIE),hz45 3 _ (.ref (.bx 3) 0 [] (.agg [zh (.at 26 []) (r4.1.1:NL LI),zh (.at 2121 []) (r4.1.2:NL (Int×Int))])) (show s44 3=(.ref (.bx 3) 0 [] (.agg [zh (.at 2120 []) (r4.1.1:NL LI),zh (.at 2121 []) (r4.1.2:NL (Int×Int))])) from (hd_44 3 (by decide)).trans (zb (zb h3 (zj rfl rfl (zK (zf rfl (zf rfl rfl))))) rfl)) (zi rfl (zr (zc (zm (r:=2120) (p:=[]) rfl rfl) (zc (zm (r:=2121) (p:=[]) rfl rfl) zk))))⟩ ?_
   rintro s ⟨h2,h3⟩
   refine .nsq (.ret ?_)
   obtain rfl:=oi h
   exact rrB (yL h2 (by kernel_rfl)) (yL h3 (by simp only [V.shape,V.shapes,zG];kernel_rfl)) (ww (uH (zW (w5 (x:=(r2.1:GR))) (zW (uB (zW (xk (o:=r4.1.1)) (zW (xk (o:=r4.1.2)) xg))) xg))))
 refine .skip (.nbk (.nsq (.seq (rg (g1 5 (gV r2.1) h5 fun h115=>?_)))))
 refine N6 (r:=2) (.agg [zh (.at 2120 []) (r4.1.1:NL LI),zh (.at 2121 []) (r4.1.2:NL (Int×Int))]) (Wy h2) (xm (c:=.agg [zh (.at 2120 []) (r4.1.1:NL LI),zh (.at 2121 []) (r4.1.2:NL (Int×Int))]) h6 (by simp [V.shape,V.shapes,zG,Sh.beq,Sh.beqs])) [(6,.ref (.bx 6) 0 [] (.agg [zh (.at 2120 []) (r4.1.1:NL LI),zh (.at 2121 []) (r4.1.2:NL (Int×Int))]))] h6 rfl (by simp [V.live,V.lives,y7,yM (α:=LI) (fun _=>rfl),yM (α:=(Int×Int)) (fun _=>rfl),V.toks,V.tokss,zM,yP,toks_enc,yl,zP,xY,or_imp,y4]) (by simp +contextual [V.toks,V.tokss,zM,toks_enc,yl,zP,xY,or_imp,y4,imp_and,yP]) ?_
 refine zQ (gV r2.1) (zx h2 rfl) (zx h115 rfl) (xr (by first | rfl | simp [V.toks,V.tokss,toks_enc,zN])) (zQ (.agg [zh (.at 2120 []) (r4.1.1:NL LI),zh (.at 2121 []) (r4.1.2:NL (Int×Int))]) (zx (zb h3 (zj rfl rfl (zK (zf rfl (zf rfl rfl))))) rfl) (zx (zb rfl (zK (zf (yg rfl rfl) (zf (yg rfl rfl) rfl)))) rfl) ⟨by decide,by decide,rfl,(by simp [V.shape,V.shapes,zG,Sh.beq,Sh.beqs]),(by simp [V.mut,V.muts,V.shape,V.shapes,zG,Sh.beq,Sh.beqs]),(by simp [V.toks,V.tokss,zN])⟩ (xf (uq (x:=26) (fun s46 hx_46 hd_46=>?_))))
 refine yR (r:=2120) (x:=26) (v:=_) (by exact hx_46) rfl (fun s47 hz47=>?_)
 refine ez [(2,bG 2 r2.1),(3,.ref (.bx 3) 0 [] (.agg [zh (.at 26 []) (r4.1.1:NL LI),zh (.at 2121 []) (r4.1.2:NL (Int×Int))]))] ⟨hz47 2 _ _ (show s46 2=(bG 2 r2.1) from (hd_46 2 (by decide)).trans (zb (zb h2 rfl) (zj rfl rfl uIE))) (zi rfl mIE),hz47 3 _ (.ref (.bx 3) 0 [] (.agg [zh (.at 26 []) (r4.1.1:NL LI),zh (.at 2121 []) (r4.1.2:NL (Int×Int))])) (show s46 3=(.ref (.bx 3) 0 [] (.agg [zh (.at 2120 []) (r4.1.1:NL LI),zh (.at 2121 []) (r4.1.2:NL (Int×Int))])) from (hd_46 3 (by decide)).trans (zb (zb h3 (zj rfl rfl (zK (zf rfl (zf rfl rfl))))) rfl)) (zi rfl (zr (zc (zm (r:=2120) (p:=[]) rfl rfl) (zc (zm (r:=2121) (p:=[]) rfl rfl) zk))))⟩ ?_
 rintro s ⟨h2,h3⟩
 refine .nsq (.ret ?_)
 obtain rfl:=oi h
 exact rrB (yL h2 (by kernel_rfl)) (yL h3 (by simp only [V.shape,V.shapes,zG];kernel_rfl)) (ww (uH (zW (w5 (x:=(r2.1:GR))) (zW (uB (zW (xk (o:=r4.1.1)) (zW (xk (o:=r4.1.2)) xg))) xg))))
end
def e5 (F:Nat):Ent:=ent 5 (fun (x:(LB×Unit))=>wd F x.1) (fun (r:(GR×((List LI)×TP)))=>(.tup [enc (r.1:GR),enc (r.2:((List LI)×TP))])) 0 true []
abbrev C5 (D:List V→Option V) (F:Nat):Prop:=∀ (x0:LB) r,wd F x0=some r→D [enc x0]=some (.tup [enc (r.1:GR),enc (r.2:((List LI)×TP))])
theorem p5 {F:Nat}:C5 (e5 F).den F:=fun x0 _ h=>zZ (x0,()) h
theorem o5 (hF:zH Tp D σ) (H:H5 D σ F):(e5 F).Ok Tp:=okZ (f:=5) Try.func5 fun ⟨x0,_⟩ y hy=>cR hF Try.func5 c5 (t5 H x0 _ rfl hy)
def zq1:AC:=(.seq (rr [jm 7 0,jm 8 1,jv 9 (.bin .geq (.t 7) (.t 8)),jm 10 9,jg 11 10 true (.mov (.t 0)),jg 12 10 true (.mov (.t 2)),jg 13 10 true (.bin .leq (.t 11) (.t 12)),jv 14 (.pick (.t 10) (.t 13) kf),jm 6 14]) .ret)
def A45:AC:=(.seq (rr [jv 6 (.mov kf)]) zq1)
def zwG:List An:=[]
theorem c45:cq Tp Try.f45 zwG=some A45:=by kernel_rfl
structure H45 (D:Den) (σ:Sig) (F:Nat):Prop where
 mk ::
abbrev R45 (r:Bool):(Nat→V)→Prop:=RR Tp [.tmp 6] 0 false (enc (r:Bool))
section
variable {r:Bool}
def Wb (F:Nat) (x1:Int) (x2:Int) (x3:Int):Option Bool:=
 bif decide (x1≥x2) then
  some (decide (x1≤x3))
 else
  some false
theorem t45 (H:H45 D σ F) (x1:Int) (x2:Int) (x3:Int) (s:Nat→V) (hs:zB [(0,ji x1),(1,ji x2),(2,ji x3)] s) (h:Wb F x1 x2 x3=some r):Run D σ (R45 r) (.run A45 []) s:=by
 unfold Wb at h
 obtain ⟨h0,h1,h2⟩:=hs
 refine .seq (rg (g0 (jb false) fun h6=>gq (.nsq (.seq (rg (gm h0 fun h7=>gm h1 fun h8=>g2 7 8 (jb (decide (x1≥x2))) h7 h8 fun h9=>gm h9 fun h10=>yd h (fun hg4 h=>?_) (fun hg4 h=>?_)))))))
 · refine zt (ct h10 hg4) (gm h0 fun h11=>zt (ct h10 hg4) (gm h2 fun h12=>zt (ct h10 hg4) (g2 11 12 (jb (decide (x1≤x3))) h11 h12 fun h13=>g2 10 13 (jb (decide (x1≤x3))) (ct h10 hg4) h13 fun h14=>gm h14 fun h6=>gq (.nsq (.ret ?_)))))
   obtain rfl:=oi h
   exact rrA (zA h6) rfl
 iterate 3 refine yq (ct h10 hg4) ?_
 refine g2 10 13 (jb false) (ct h10 hg4) (rf (.tup [])) fun h14=>gm h14 fun h6=>gq (.nsq (.ret ?_))
 obtain rfl:=oi h
 exact rrA (zA h6) rfl
end
def e45 (F:Nat):Ent:=ent 45 (fun (x:(Int×Int×Int×Unit))=>Wb F x.1 x.2.1 x.2.2.1) (fun (r:Bool)=>(enc (r:Bool))) 0 false []
abbrev C45 (D:List V→Option V) (F:Nat):Prop:=∀ (x0:Int) (x1:Int) (x2:Int) r,Wb F x0 x1 x2=some r→D [enc x0,enc x1,enc x2]=some (enc (r:Bool))
theorem p45 {F:Nat}:C45 (e45 F).den F:=fun x0 x1 x2 _ h=>zZ (x0,x1,x2,()) h
theorem o45 (hF:zH Tp D σ) (H:H45 D σ F):(e45 F).Ok Tp:=okZ (f:=45) Try.func45 fun ⟨x0,x1,x2,_⟩ y hy=>cR hF Try.func45 c45 (t45 H x0 x1 x2 _ ⟨rfl,rfl,rfl⟩ hy)
def zsh:AC:=(.seq (rr [jm 3 0,jm 4 0,jv 5 (.bin .neq (.t 3) (.t 4)),jm 2 5]) .ret)
def A86:AC:=(.seq (rr [jv 2 (.mov kf)]) zsh)
def zwz:List An:=[]
theorem c86:cq Tp Try.f86 zwz=some A86:=by kernel_rfl
structure H86 (D:Den) (σ:Sig) (F:Nat):Prop where
 mk ::
abbrev R86 (r:Bool):(Nat→V)→Prop:=RR Tp [.tmp 2] 0 false (enc (r:Bool))
section
variable {r:Bool}
def uV (F:Nat) (x1:Int):Option Bool:=
 some (x1 != x1)
theorem t86 (H:H86 D σ F) (x1:Int) (s:Nat→V) (hs:zB [(0,ji x1)] s) (h:uV F x1=some r):Run D σ (R86 r) (.run A86 []) s:=by
 unfold uV at h
 have h0:=hs
 refine .seq (rg (g0 (jb false) fun h2=>gq (.nsq (.seq (rg (gm h0 fun h3=>gm h0 fun h4=>g2 3 4 (jb (x1 != x1)) h3 h4 fun h5=>gm h5 fun h2=>gq (.nsq (.ret ?_))))))))
 obtain rfl:=oi h
 exact rrA (zA h2) rfl
end
def e86 (F:Nat):Ent:=ent 86 (fun (x:(Int×Unit))=>uV F x.1) (fun (r:Bool)=>(enc (r:Bool))) 0 false []
abbrev C86 (D:List V→Option V) (F:Nat):Prop:=∀ (x0:Int) r,uV F x0=some r→D [enc x0]=some (enc (r:Bool))
theorem p86 {F:Nat}:C86 (e86 F).den F:=fun x0 _ h=>zZ (x0,()) h
theorem o86 (hF:zH Tp D σ) (H:H86 D σ F):(e86 F).Ok Tp:=okZ (f:=86) Try.func86 fun ⟨x0,_⟩ y hy=>cR hF Try.func86 c86 (t86 H x0 _ rfl hy)
def zvu:AC:=(.cond (.t 12) (.seq (rr [jv 4 (.mov (jn 0))]) .ret) .skip)
def zsM:AC:=(.seq (rr [jv 4 (.mov (jn (-1)))]) .ret)
def zrb:AC:=(.cond (.t 11) (.seq (.seq (rr [jm 12 6]) zvu) zsM) .skip)
def zp3:AC:=(.cond (.t 13) (.seq (rr [jv 4 (.mov (jn 1))]) .ret) .skip)
def zps:AC:=(.cond (.t 16) (.seq (rr [jv 4 (.mov (jn (-1)))]) .ret) .skip)
def zo7:AC:=(.cond (.t 19) (.seq (rr [jv 4 (.mov (jn 1))]) .ret) .skip)
def zmW:AC:=(.seq (rr [jv 4 (.mov (jn 0))]) .ret)
def zni:AC:=(.seq (.seq (rr [jm 17 0,jm 18 1,jv 19 (.bin .gtr (.t 17) (.t 18))]) zo7) zmW)
def zsF:AC:=(.seq (.seq (rr [jm 14 0,jm 15 1,jv 16 (.bin .lss (.t 14) (.t 15))]) zps) zni)
def zql:AC:=(.seq (.seq (rr [jm 13 6]) zp3) zsF)
def zuU:AC:=(.seq (.seq (rr [jm 11 5]) zrb) zql)
def zum:AC:=(.seq (rr [jm 9 1,jx 10 (.call (jf 86) [.t 9]),jm 6 10]) zuU)
def zta:AC:=(.seq (rr [jm 7 0,jx 8 (.call (jf 86) [.t 7]),jm 5 8]) zum)
def A75:AC:=(.seq (rr [jv 4 (.mov (jn 0))]) zta)
def zwm:List An:=[]
theorem c75:cq Tp Try.f75 zwm=some A75:=by kernel_rfl
structure H75 (D:Den) (σ:Sig) (F:Nat):Prop where
 c86:C86 (D 86) F
 g86:σ 86=some (0,false)
abbrev R75 (r:Int):(Nat→V)→Prop:=RR Tp [.tmp 4] 0 false (enc (r:Int))
section
variable {r:Int}
def vL (F:Nat) (x1:Int) (x2:Int):Option Int:=
 (uV F x1).bind fun r3=>
 (uV F x2).bind fun r4=>
 bif r3 then
  bif r4 then
   some 0
  else
   some (-1)
 else
  bif r4 then
   some 1
  else
   bif decide (x1 < x2) then
    some (-1)
   else
    bif decide (x1 > x2) then
     some 1
    else
     some 0
theorem t75 (H:H75 D σ F) (x1:Int) (x2:Int) (s:Nat→V) (hs:zB [(0,ji x1),(1,ji x2)] s) (h:vL F x1 x2=some r):Run D σ (R75 r) (.run A75 []) s:=by
 unfold vL at h
 obtain ⟨h0,h1⟩:=hs
 refine .seq (rg (g0 (ji 0) fun h4=>gq (.nsq (.seq (rg (gm h0 fun h7=>?_))))))
 obtain ⟨r3,Er3,h⟩:=zd h
 refine gcF [enc (x1:Int)] (zl h7 rfl rfl zJ) (H.c86 _ _ Er3) H.g86 (gm (rf (jb r3)) fun h5=>gq (.nsq (.seq (rg (gm h1 fun h9=>?_)))))
 obtain ⟨r4,Er4,h⟩:=zd h
 refine gcF [enc (x2:Int)] (zl h9 rfl rfl zJ) (H.c86 _ _ Er4) H.g86 (gm (rf (jb r4)) fun h6=>gq (.nsq (.seq (.seq (rg (gm h5 fun h11=>gq (.nsq (zu h11 h (fun h=>?_) (fun h=>?_)))))))))
 · refine .seq (.seq (rg (gm h6 fun h12=>gq (.nsq (zu h12 h (fun h=>?_) (fun h=>?_))))))
   · refine .seq (rg (g0 (ji 0) fun h4=>gq (.nsq (.ret ?_))))
     obtain rfl:=oi h
     exact rrA (zA h4) rfl
   refine .skip (.nsq (.seq (rg (g0 (ji (-1)) fun h4=>gq (.nsq (.ret ?_))))))
   obtain rfl:=oi h
   exact rrA (zA h4) rfl
 refine .skip (.nsq (.seq (.seq (rg (gm h6 fun h13=>gq (.nsq (zu h13 h (fun h=>?_) (fun h=>?_))))))))
 · refine .seq (rg (g0 (ji 1) fun h4=>gq (.nsq (.ret ?_))))
   obtain rfl:=oi h
   exact rrA (zA h4) rfl
 refine .skip (.nsq (.seq (.seq (rg (gm h0 fun h14=>gm h1 fun h15=>g2 14 15 (jb (decide (x1 < x2))) h14 h15 fun h16=>gq (.nsq (zu h16 h (fun h=>?_) (fun h=>?_))))))))
 · refine .seq (rg (g0 (ji (-1)) fun h4=>gq (.nsq (.ret ?_))))
   obtain rfl:=oi h
   exact rrA (zA h4) rfl
 refine .skip (.nsq (.seq (.seq (rg (gm h0 fun h17=>gm h1 fun h18=>g2 17 18 (jb (decide (x1 > x2))) h17 h18 fun h19=>gq (.nsq (zu h19 h (fun h=>?_) (fun h=>?_))))))))
 · refine .seq (rg (g0 (ji 1) fun h4=>gq (.nsq (.ret ?_))))
   obtain rfl:=oi h
   exact rrA (zA h4) rfl
 refine .skip (.nsq (.seq (rg (g0 (ji 0) fun h4=>gq (.nsq (.ret ?_))))))
 obtain rfl:=oi h
 exact rrA (zA h4) rfl
end
def e75 (F:Nat):Ent:=ent 75 (fun (x:(Int×Int×Unit))=>vL F x.1 x.2.1) (fun (r:Int)=>(enc (r:Int))) 0 false []
abbrev C75 (D:List V→Option V) (F:Nat):Prop:=∀ (x0:Int) (x1:Int) r,vL F x0 x1=some r→D [enc x0,enc x1]=some (enc (r:Int))
theorem p75 {F:Nat}:C75 (e75 F).den F:=fun x0 x1 _ h=>zZ (x0,x1,()) h
theorem o75 (hF:zH Tp D σ) (H:H75 D σ F):(e75 F).Ok Tp:=okZ (f:=75) Try.func75 fun ⟨x0,x1,_⟩ y hy=>cR hF Try.func75 c75 (t75 H x0 x1 _ ⟨rfl,rfl⟩ hy)
def zsf:AC:=(.cond (.t 19) (.seq (rr [jv 4 (.mov (jn 1))]) .ret) .skip)
def zt8:AC:=(.cond (.t 28) (.seq (rr [jm 29 8,jm 4 29]) .ret) .skip)
def zrs:AC:=(.seq (rr [jm 27 8,jv 28 (.bin .neq (.t 27) (jn 0))]) zt8)
def ztt:AC:=(.seq (rr [jm 24 6,jm 25 7,jx 26 (.call (jf 75) [.t 24,.t 25]),jm 8 26]) zrs)
def zuJ:AC:=(.seq (rr [jm 20 1,jm 21 5,jv 22 (.idx (.t 20) (.t 21) 1),jl 23 22,jm 7 23]) ztt)
def ztV:AC:=(.seq (.seq (rr [jm 16 5,jm 17 1,jk 18 17,jv 19 (.bin .geq (.t 16) (.t 18))]) zsf) zuJ)
def zm4:AC:=(rr [jv 30 (.bin .add (.t 11) (jn 1)),jm 11 30])
def zuO:AC:=(.seq (.block 1 (.seq (rr [jm 13 11,jv 14 (.idx (.t 9) (.t 11) 1),jl 15 14,jm 5 13,jm 6 15]) ztV)) zm4)
def zsW:AC:=(.seq (.cond (.t 12) .skip (.exit 0)) zuO)
def zia:AC:=(.seq (rr [jv 12 (.bin .lss (.t 11) (.t 10))]) zsW)
def zpm:AC:=(.cond (.t 35) (.seq (rr [jv 4 (.mov (jn (-1)))]) .ret) .skip)
def zm0:AC:=(.seq (rr [jv 4 (.mov (jn 0))]) .ret)
def ziJ:AC:=(.seq (.seq (rr [jm 31 0,jk 32 31,jm 33 1,jk 34 33,jv 35 (.bin .lss (.t 32) (.t 34))]) zpm) zm0)
def znq:AC:=(.block 0 (.loop zia))
def zoM:AC:=(.seq (.seq (rr [jm 9 0,jk 10 9,jv 11 (.mov (jn 0))]) znq) ziJ)
def A46:AC:=(.seq (rr [jv 4 (.mov (jn 0))]) zoM)
def zxG:List An:=[]
theorem c46:cq Tp Try.f46 zxG=some A46:=by kernel_rfl
structure H46 (D:Den) (σ:Sig) (F:Nat):Prop where
 c75:C75 (D 75) F
 g75:σ 75=some (0,false)
abbrev R46 (r:Int):(Nat→V)→Prop:=RR Tp [.tmp 4] 0 false (enc (r:Int))
section
variable {r:Int}
def uQ (F:Nat) (x1:LI) (x2:LI) :Nat→Int→Option Int
 | 0,_=>none
 | k + 1,x6=>
   bif decide (x6 < (x1.length:Int)) then
    (idx x1 x6).bind fun v10=>
    bif decide (x6≥(x2.length:Int)) then
     some 1
    else
     (idx x2 x6).bind fun v11=>
     (vL F v10 v11).bind fun r12=>
     bif (r12 != 0) then
      some r12
     else
      (uQ F x1 x2 k) (w64 (x6 + 1))
   else
    bif decide ((x1.length:Int) < (x2.length:Int)) then
     some (-1)
    else
     some 0
theorem ziz (H:H46 D σ F) (x1:LI) (x2:LI) :∀ (k:Nat) (x6:Int) (s:Nat→V),zB [(0,eL x1),(1,eL x2),(4,ji 0),(9,eL x1),(10,ji (x1.length:Int)),(11,ji x6)] s→uQ F x1 x2 k x6=some r→Run D σ (R46 r) (.run zia [.lp zia,.bk 0,.sq ziJ]) s:=by
 intro k
 induction k with
 | zero=>intro x6 s _ h;exact nm h
 | succ k ih=>
   intro x6 s hs h
   rw [uQ] at h
   obtain ⟨h0,h1,h4,h9,h10,h11⟩:=hs
   refine .seq (rg (g2 11 10 (jb (decide (x6 < (x1.length:Int)))) h11 h10 fun h12=>gq (.nsq (.seq (zu h12 h (fun h=>?_) (fun h=>?_))))))
   · refine .skip (.nsq (.seq (.block (.seq (rg (gm h11 fun h13=>?_))))))
     obtain ⟨v10,Ev10,h⟩:=zd h
     refine gv (.ref .sh 0 [] (ji v10)) (yG (t:=.sh) (lo:=0) (xs:=x1) h9 h11 Ev10 rfl rfl) fun h14=>g1 14 (ji v10) h14 fun h15=>gm h13 fun h5=>gm h15 fun h6=>gq (.nsq (.seq (.seq (rg (gm h5 fun h16=>gm h1 fun h17=>gl x2 h17 fun h18=>g2 16 18 (jb (decide (x6≥(x2.length:Int)))) h16 h18 fun h19=>gq (.nsq (zu h19 h (fun h=>?_) (fun h=>?_))))))))
     · refine .seq (rg (g0 (ji 1) fun h4=>gq (.nsq (.ret ?_))))
       obtain rfl:=oi h
       exact rrA (zA h4) rfl
     refine .skip (.nsq (.seq (rg (gm h1 fun h20=>gm h5 fun h21=>?_))))
     obtain ⟨v11,Ev11,h⟩:=zd h
     refine gv (.ref .sh 0 [] (ji v11)) (yG (t:=.sh) (lo:=0) (xs:=x2) h20 h21 Ev11 rfl rfl) fun h22=>g1 22 (ji v11) h22 fun h23=>gm h23 fun h7=>gq (.nsq (.seq (rg (gm h6 fun h24=>gm h7 fun h25=>?_))))
     obtain ⟨r12,Er12,h⟩:=zd h
     refine gcF [enc (v10:Int),enc (v11:Int)] (zl h24 rfl rfl (zl h25 rfl rfl zJ)) (H.c75 _ _ _ Er12) H.g75 (gm (rf (ji r12)) fun h8=>gq (.nsq (.seq (rg (gm h8 fun h27=>g1 27 (jb (r12 != 0)) h27 fun h28=>gq (.nsq (zu h28 h (fun h=>?_) (fun h=>?_))))))))
     · refine .seq (rg (gm h8 fun h29=>gm h29 fun h4=>gq (.nsq (.ret ?_))))
       obtain rfl:=oi h
       exact rrA (zA h4) rfl
     refine .skip (.nbk (.nsq (rg (g1 11 (ji (w64 (x6 + 1))) h11 fun h30=>gm h30 fun h11=>gq (.nlp ?_)))))
     exact ih (w64 (x6 + 1)) _ ⟨h0,h1,h4,h9,h10,h11⟩ h
   refine .exit (.esq (.elp (.ebk (.nsq (.seq (.seq (rg (gm h0 fun h31=>gl x1 h31 fun h32=>gm h1 fun h33=>gl x2 h33 fun h34=>g2 32 34 (jb (decide ((x1.length:Int) < (x2.length:Int)))) h32 h34 fun h35=>gq (.nsq (zu h35 h (fun h=>?_) (fun h=>?_)))))))))))
   · refine .seq (rg (g0 (ji (-1)) fun h4=>gq (.nsq (.ret ?_))))
     obtain rfl:=oi h
     exact rrA (zA h4) rfl
   refine .skip (.nsq (.seq (rg (g0 (ji 0) fun h4=>gq (.nsq (.ret ?_))))))
   obtain rfl:=oi h
   exact rrA (zA h4) rfl
def ul (F:Nat) (x1:LI) (x2:LI):Option Int:=
 uQ F x1 x2 F 0
theorem t46 (H:H46 D σ F) (x1:LI) (x2:LI) (s:Nat→V) (hs:zB [(0,eL x1),(1,eL x2)] s) (h:ul F x1 x2=some r):Run D σ (R46 r) (.run A46 []) s:=by
 unfold ul at h
 obtain ⟨h0,h1⟩:=hs
 refine .seq (rg (g0 (ji 0) fun h4=>gq (.nsq (.seq (.seq (rg (gm h0 fun h9=>gl x1 h9 fun h10=>g0 (ji 0) fun h11=>gq (.nsq (.block (.loop ?_))))))))))
 exact ziz H x1 x2 F 0 _ ⟨h0,h1,h4,h9,h10,h11⟩ h
end
def e46 (F:Nat):Ent:=ent 46 (fun (x:(LI×LI×Unit))=>ul F x.1 x.2.1) (fun (r:Int)=>(enc (r:Int))) 0 false []
abbrev C46 (D:List V→Option V) (F:Nat):Prop:=∀ (x0:LI) (x1:LI) r,ul F x0 x1=some r→D [enc x0,enc x1]=some (enc (r:Int))
theorem p46 {F:Nat}:C46 (e46 F).den F:=fun x0 x1 _ h=>zZ (x0,x1,()) h
theorem o46 (hF:zH Tp D σ) (H:H46 D σ F):(e46 F).Ok Tp:=okZ (f:=46) Try.func46 fun ⟨x0,x1,_⟩ y hy=>cR hF Try.func46 c46 (t46 H x0 x1 _ ⟨rfl,rfl⟩ hy)
def zmA:AC:=(.cond (.t 48) (.seq (rr [jv 2 (.mov kf)]) .ret) .skip)
def ztB:AC:=(.seq (rr [jv 17 (.idxA (.t 4) (jn 0) 2 1),jl 18 17,jv 19 (.bin .lss (.t 18) (jn 0)),jm 20 19,jg 21 20 false (.idxA (.t 4) (jn 0) 2 1),jg 22 20 false (.load .s (.t 21)),jg 23 20 false (.idxA (.t 4) (jn 1) 2 1),jg 24 20 false (.load .s (.t 23)),jg 25 20 false (.bin .geq (.t 22) (.t 24)),jv 26 (.pick (.t 20) kt (.t 25)),jm 27 26,jg 28 27 false (.idxA (.t 4) (jn 1) 2 1),jg 29 27 false (.load .s (.t 28)),jg 30 27 false (.fld (.t 1) 0 0),jg 31 27 false (.load .s (.t 30)),jg 32 27 false (.bin .geq (.t 29) (.t 31)),jv 33 (.pick (.t 27) kt (.t 32)),jm 34 33,jg 35 34 false (.mov (.t 3)),jg 36 34 false (.bin .gtr (.t 35) (jn 0)),jg 37 34 false (.mov (.t 36)),jg 38 37 true (.fld (.t 1) 1 1),jg 39 37 true (.load .p (.t 38)),jg 40 37 true (.mov (.t 3)),jg 41 37 true (.bin .sub (.t 40) (jn 1)),jg 42 37 true (.idx (.t 39) (.t 41) 2),jg 43 37 true (.sliceA (.t 42) 2 .s),jg 44 37 true (.sliceA (.t 4) 2 .s),.mk (some 45) (some (37,true)) false (.call (jf 46) [.t 43,.t 44]),jg 46 37 true (.bin .geq (.t 45) (jn 0)),jg 47 34 false (.pick (.t 37) (.t 46) kf),jv 48 (.pick (.t 34) kt (.t 47))]) zmA)
def zmc:AC:=(rr [jv 49 (.bin .add (.t 12) (jn 1)),jm 12 49])
def zpG:AC:=(.seq (.block 1 (.seq (.reg [.clr [4]] [jm 14 12,jv 15 (.idx (.t 10) (.t 12) 2),jv 16 (.load (.ag [.s,.s]) (.t 15)),jx 4 (.alloc (.agg [i0,i0])),jm 3 14,jz (.store (.ag [.s,.s]) (.t 4) (.t 16))] []) ztB)) zmc)
def ztR:AC:=(.seq (.cond (.t 13) .skip (.exit 0)) zpG)
def Qt:AC:=(.seq (rr [jv 13 (.bin .lss (.t 12) (.t 11))]) ztR)
def zeE:AC:=(.seq (rr [jv 2 (.mov kt)]) .ret)
def zrY:AC:=(.cond (.t 8) (.seq (rr [jv 2 (.mov kf)]) .ret) .skip)
def zom:AC:=(.block 0 (.loop Qt))
def znM:AC:=(.seq (.seq (rr [jv 9 (.fld (.t 1) 1 1),jv 10 (.load .p (.t 9)),jk 11 10,jv 12 (.mov (jn 0))]) zom) zeE)
def zt1:AC:=(.seq (.seq (rr [jv 5 (.fld (.t 1) 0 0),jl 6 5,jx 7 (.call (jf 45) [.t 6,jn 0,jn 8]),jv 8 (.un .not (.t 7))]) zrY) znM)
def A22:AC:=(.seq (.reg [.clr [1]] [jx 1 (.box (.t 0)),jv 2 (.mov kf)] []) zt1)
def zwI:List An:=[⟨0,[.clr [1]],[],[],[]⟩,⟨5,[.clr [4]],[],[],[]⟩]
theorem c22:cq Tp Try.f22 zwI=some A22:=by kernel_rfl
structure H22 (D:Den) (σ:Sig) (F:Nat):Prop where
 c45:C45 (D 45) F
 g45:σ 45=some (0,false)
 c46:C46 (D 46) F
 g46:σ 46=some (0,false)
abbrev R22 (r:Bool):(Nat→V)→Prop:=RR Tp [.tmp 2] 0 false (enc (r:Bool))
section
variable {r:Bool}
def uO (F:Nat) (x1:GR) (x9:Int) (c1:Int→Option Bool) (x19:Bool):Option Bool:=
 bif x19 then
  some false
 else
  c1 (w64 (x9 + 1))
theorem JK (H:H22 D σ F) (x1:GR) (x9:Int) (c1:Int→Option Bool) (Hc1:∀ (x9:Int) (s:Nat→V),zB [(1,bG 1 x1),(2,jb false),(10,eP x1.2),(11,ji (x1.2.length:Int)),(12,ji x9)] s→c1 x9=some r→Run D σ (R22 r) (.run Qt [.lp Qt,.bk 0,.sq zeE]) s) (x19:Bool) (s:Nat→V) (hs:zB [(1,bG 1 x1),(2,jb false),(10,eP x1.2),(11,ji (x1.2.length:Int)),(12,ji x9),(48,jb x19)] s) (h:uO F x1 x9 c1 x19=some r):Run D σ (R22 r) (.nrm [.sq zmA,.bk 1,.sq zmc,.lp Qt,.bk 0,.sq zeE]) s:=by
 unfold uO at h
 obtain ⟨h1,h2,h10,h11,h12,h48⟩:=hs
 refine .nsq (zu h48 h (fun h=>?_) (fun h=>?_))
 · refine .seq (rg (g0 (jb false) fun h2=>gq (.nsq (.ret ?_))))
   obtain rfl:=oi h
   exact rrA (zA h2) rfl
 refine .skip (.nbk (.nsq (rg (g1 12 (ji (w64 (x9 + 1))) h12 fun h49=>gm h49 fun h12=>gq (.nlp ?_)))))
 exact Hc1 (w64 (x9 + 1)) _ ⟨h1,h2,h10,h11,h12⟩ h
def xH (F:Nat) (x1:GR) :Nat→Int→Option Bool
 | 0,_=>none
 | k + 1,x9=>
   bif decide (x9 < (x1.2.length:Int)) then
    (idx x1.2 x9).bind fun v16=>
    bif decide (v16.1 < 0) then
     uO F x1 x9 (xH F x1 k) true
    else
     bif decide (v16.1≥v16.2) then
      uO F x1 x9 (xH F x1 k) true
     else
      bif decide (v16.2≥x1.1) then
       uO F x1 x9 (xH F x1 k) true
      else
       bif decide (x9 > 0) then
        (idx x1.2 (w64 (x9 - 1))).bind fun v20=>
        (ul F [v20.1,v20.2] [v16.1,v16.2]).bind fun r21=>
        uO F x1 x9 (xH F x1 k) (decide (r21≥0))
       else
        uO F x1 x9 (xH F x1 k) false
   else
    some true
theorem zjT (H:H22 D σ F) (x1:GR) :∀ (k:Nat) (x9:Int) (s:Nat→V),zB [(1,bG 1 x1),(2,jb false),(10,eP x1.2),(11,ji (x1.2.length:Int)),(12,ji x9)] s→xH F x1 k x9=some r→Run D σ (R22 r) (.run Qt [.lp Qt,.bk 0,.sq zeE]) s:=by
 intro k
 induction k with
 | zero=>intro x9 s _ h;exact nm h
 | succ k ih=>
   intro x9 s hs h
   rw [xH] at h
   obtain ⟨h1,h2,h10,h11,h12⟩:=hs
   refine .seq (rg (g2 12 11 (jb (decide (x9 < (x1.2.length:Int)))) h12 h11 fun h13=>gq (.nsq (.seq (zu h13 h (fun h=>?_) (fun h=>?_))))))
   · refine .skip (.nsq (.seq (.block (.seq (zC (yc ?_))))))
     refine ez [(1,_),(2,_),(4,_),(10,_),(11,_),(12,_)] ⟨za h1 rfl (zi rfl mIE),za h2 rfl mb,zg rfl,za h10 rfl me,za h11 rfl mi,za h12 rfl mi⟩ ?_
     rintro s ⟨h1,h2,h4,h10,h11,h12⟩
     refine gm h12 fun h14=>?_
     obtain ⟨v16,Ev16,h⟩:=zd h
     refine gv (.ref .sh 0 [] (.agg [ji v16.1,ji v16.2])) (yG (t:=.sh) (lo:=0) (xs:=x1.2) h10 h12 Ev16 rfl rfl) fun h15=>g1 15 (.agg [ji v16.1,ji v16.2]) h15 fun h16=>y6 h4 (gm h14 fun h3=>zQ (.agg [ji v16.1,ji v16.2]) (zx rfl rfl) (zx h16 rfl) (xr (by first | rfl | simp [V.toks,V.tokss,toks_enc,zN])) (gz [(1,bG 1 x1),(2,jb false),(3,ji x9),(4,.ref (.bx 4) 0 [] (.agg [ji v16.1,ji v16.2])),(10,eP x1.2),(11,ji (x1.2.length:Int)),(12,ji x9)] ⟨zb h1 (zj rfl rfl uIE),zb h2 rfl,zb h3 rfl,zb rfl rfl,zb h10 uE,zb h11 rfl,zb h12 rfl⟩ ?_))
     rintro s ⟨h1,h2,h3,h4,h10,h11,h12⟩
     refine .nsq (.seq (rg (g1 4 (.ref (.bx 4) 0 [0] (ji v16.1)) h4 fun h17=>g1 17 (ji v16.1) h17 fun h18=>g1 18 (jb (decide (v16.1 < 0))) h18 fun h19=>gm h19 fun h20=>yd h (fun hg4 h=>?_) (fun hg4 h=>?_))))
     · iterate 5 refine yq (ct h20 hg4) ?_
       refine g2 20 25 (jb true) (ct h20 hg4) (rf (.tup [])) fun h26=>gm h26 fun h27=>yq h27 ?_
       iterate 4 refine yq h27 ?_
       refine g2 27 32 (jb true) h27 (rf (.tup [])) fun h33=>gm h33 fun h34=>yq h34 ?_
       iterate 2 refine yq h34 ?_
       iterate 9 refine Yu rfl ?_
       refine yq h34 (g2 34 47 (jb true) h34 (rf (.tup [])) fun h48=>gz [(1,_),(2,_),(10,_),(11,_),(12,_),(48,_)] ⟨h1,h2,h10,h11,h12,h48⟩ ?_)
       rintro s ⟨h1,h2,h10,h11,h12,h48⟩
       exact JK H x1 x9 (xH F x1 k) ih true _ ⟨h1,h2,h10,h11,h12,h48⟩ h
     refine zt (ct h20 hg4) (g1 4 (.ref (.bx 4) 0 [0] (ji v16.1)) h4 fun h21=>zt (ct h20 hg4) (g1 21 (ji v16.1) h21 fun h22=>zt (ct h20 hg4) (g1 4 (.ref (.bx 4) 0 [1] (ji v16.2)) h4 fun h23=>zt (ct h20 hg4) (g1 23 (ji v16.2) h23 fun h24=>zt (ct h20 hg4) (g2 22 24 (jb (decide (v16.1≥v16.2))) h22 h24 fun h25=>g2 20 25 (jb (decide (v16.1≥v16.2))) (ct h20 hg4) h25 fun h26=>gm h26 fun h27=>yd h (fun hg11 h=>?_) (fun hg11 h=>?_))))))
     · iterate 5 refine yq (ct h27 hg11) ?_
       refine g2 27 32 (jb true) (ct h27 hg11) (rf (.tup [])) fun h33=>gm h33 fun h34=>yq h34 ?_
       iterate 2 refine yq h34 ?_
       iterate 9 refine Yu rfl ?_
       refine yq h34 (g2 34 47 (jb true) h34 (rf (.tup [])) fun h48=>gz [(1,_),(2,_),(10,_),(11,_),(12,_),(48,_)] ⟨h1,h2,h10,h11,h12,h48⟩ ?_)
       rintro s ⟨h1,h2,h10,h11,h12,h48⟩
       exact JK H x1 x9 (xH F x1 k) ih true _ ⟨h1,h2,h10,h11,h12,h48⟩ h
     refine zt (ct h27 hg11) (g1 4 (.ref (.bx 4) 0 [1] (ji v16.2)) h4 fun h28=>zt (ct h27 hg11) (g1 28 (ji v16.2) h28 fun h29=>zt (ct h27 hg11) (g1 1 (.ref (.bx 1) 0 [0] (ji x1.1)) h1 fun h30=>zt (ct h27 hg11) (g1 30 (ji x1.1) h30 fun h31=>zt (ct h27 hg11) (g2 29 31 (jb (decide (v16.2≥x1.1))) h29 h31 fun h32=>g2 27 32 (jb (decide (v16.2≥x1.1))) (ct h27 hg11) h32 fun h33=>gm h33 fun h34=>yd h (fun hg18 h=>?_) (fun hg18 h=>?_))))))
     · iterate 3 refine yq (ct h34 hg18) ?_
       iterate 9 refine Yu rfl ?_
       refine yq (ct h34 hg18) (g2 34 47 (jb true) (ct h34 hg18) (rf (.tup [])) fun h48=>gz [(1,_),(2,_),(10,_),(11,_),(12,_),(48,_)] ⟨h1,h2,h10,h11,h12,h48⟩ ?_)
       rintro s ⟨h1,h2,h10,h11,h12,h48⟩
       exact JK H x1 x9 (xH F x1 k) ih true _ ⟨h1,h2,h10,h11,h12,h48⟩ h
     refine zt (ct h34 hg18) (gm h3 fun h35=>zt (ct h34 hg18) (g1 35 (jb (decide (x9 > 0))) h35 fun h36=>zt (ct h34 hg18) (gm h36 fun h37=>yd h (fun hg21 h=>?_) (fun hg21 h=>?_))))
     · refine zt (ct h37 hg21) (g1 1 (.ref (.bx 1) 0 [1] (eP x1.2)) h1 fun h38=>zt (ct h37 hg21) (g1 38 (eP x1.2) h38 fun h39=>zt (ct h37 hg21) (gm h3 fun h40=>zt (ct h37 hg21) (g1 40 (ji (w64 (x9 - 1))) h40 fun h41=>?_))))
       obtain ⟨v20,Ev20,h⟩:=zd h
       refine zt (ct h37 hg21) (gv (.ref .sh 0 [] (.agg [ji v20.1,ji v20.2])) (yG (t:=.sh) (lo:=0) (xs:=x1.2) h39 h41 Ev20 rfl rfl) fun h42=>zt (ct h37 hg21) (g1 42 (eL [v20.1,v20.2]) h42 fun h43=>zt (ct h37 hg21) (g1 4 (zh (.bx 4) (.of ([v16.1,v16.2]:LI))) h4 fun h44=>?_)))
       obtain ⟨r21,Er21,h⟩:=zd h
       refine zt (ct h37 hg21) (gcF [enc ([v20.1,v20.2]:LI),enc ([v16.1,v16.2]:LI)] (zl h43 rfl (erase_enc ([v20.1,v20.2]:LI)) (zl h44 rfl (ug (o:=.of [v16.1,v16.2])) zJ)) (H.c46 _ _ _ Er21) H.g46 (zt (ct h37 hg21) (g1 45 (jb (decide (r21≥0))) (rf (ji r21)) fun h46=>zt (ct h34 hg18) (g2 37 46 (jb (decide (r21≥0))) (ct h37 hg21) h46 fun h47=>g2 34 47 (jb (decide (r21≥0))) (ct h34 hg18) h47 fun h48=>gz [(1,_),(2,_),(10,_),(11,_),(12,_),(48,_)] ⟨h1,h2,h10,h11,h12,h48⟩ ?_))))
       rintro s ⟨h1,h2,h10,h11,h12,h48⟩
       exact JK H x1 x9 (xH F x1 k) ih (decide (r21≥0)) _ ⟨h1,h2,h10,h11,h12,h48⟩ h
     iterate 9 refine yq (ct h37 hg21) ?_
     refine zt (ct h34 hg18) (g2 37 46 (jb false) (ct h37 hg21) (rf (.tup [])) fun h47=>g2 34 47 (jb false) (ct h34 hg18) h47 fun h48=>gz [(1,_),(2,_),(10,_),(11,_),(12,_),(48,_)] ⟨h1,h2,h10,h11,h12,h48⟩ ?_)
     rintro s ⟨h1,h2,h10,h11,h12,h48⟩
     exact JK H x1 x9 (xH F x1 k) ih false _ ⟨h1,h2,h10,h11,h12,h48⟩ h
   refine .exit (.esq (.elp (.ebk (.nsq (.seq (rg (g0 (jb true) fun h2=>gq (.nsq (.ret ?_)))))))))
   obtain rfl:=oi h
   exact rrA (zA h2) rfl
def vl (F:Nat) (x1:GR):Option Bool:=
 (Wb F x1.1 0 8).bind fun r2=>
 bif (!r2) then
  some false
 else
  xH F x1 F 0
theorem t22 (H:H22 D σ F) (x1:GR) (s:Nat→V) (hs:zB [(0,gV x1)] s) (h:vl F x1=some r):Run D σ (R22 r) (.run A22 []) s:=by
 unfold vl at h
 have h0:=hs
 refine .seq (zC (yc ?_))
 refine ez [(0,_),(1,_)] ⟨za h0 rfl mIE,zg rfl⟩ ?_
 rintro s ⟨h0,h1⟩
 refine xU (gV x1) (zx h0 rfl) h1 rfl (g0 (jb false) fun h2=>gq (.nsq (.seq (.seq (rg (g1 1 (.ref (.bx 1) 0 [0] (ji x1.1)) (rf (bG 1 x1)) fun h5=>g1 5 (ji x1.1) h5 fun h6=>?_))))))
 obtain ⟨r2,Er2,h⟩:=zd h
 refine gcF [enc (x1.1:Int),enc (0:Int),enc (8:Int)] (zl h6 rfl rfl (zl (v:=ji 0) rfl rfl rfl (zl (v:=ji 8) rfl rfl rfl zJ))) (H.c45 _ _ _ _ Er2) H.g45 (g1 7 (jb (!r2)) (rf (jb r2)) fun h8=>gq (.nsq (zu h8 h (fun h=>?_) (fun h=>?_))))
 · refine .seq (rg (g0 (jb false) fun h2=>gq (.nsq (.ret ?_))))
   obtain rfl:=oi h
   exact rrA (zA h2) rfl
 refine .skip (.nsq (.seq (.seq (rg (g1 1 (.ref (.bx 1) 0 [1] (eP x1.2)) (rf (bG 1 x1)) fun h9=>g1 9 (eP x1.2) h9 fun h10=>gl x1.2 h10 fun h11=>g0 (ji 0) fun h12=>gq (.nsq (.block (.loop ?_))))))))
 exact zjT H x1 F 0 _ ⟨rfl,h2,h10,h11,h12⟩ h
end
def e22 (F:Nat):Ent:=ent 22 (fun (x:(GR×Unit))=>vl F x.1) (fun (r:Bool)=>(enc (r:Bool))) 0 false []
abbrev C22 (D:List V→Option V) (F:Nat):Prop:=∀ (x0:GR) r,vl F x0=some r→D [enc x0]=some (enc (r:Bool))
theorem p22 {F:Nat}:C22 (e22 F).den F:=fun x0 _ h=>zZ (x0,()) h
theorem o22 (hF:zH Tp D σ) (H:H22 D σ F):(e22 F).Ok Tp:=okZ (f:=22) Try.func22 fun ⟨x0,_⟩ y hy=>cR hF Try.func22 c22 (t22 H x0 _ rfl hy)
def zsO:AC:=(rr [jv 28 (.fld (.t 3) 0 0),jv 29 (.load .p (.t 28)),jv 30 (.idxA (.t 5) (jn 1) 2 1),jl 31 30,jv 32 (.idx (.t 29) (.t 31) 1),jl 33 32,jv 34 (.idxA (.t 5) (jn 0) 2 1),jl 35 34,jv 36 (.bin .shl (jn 1) (.t 35)),jv 37 (.bin .or (.t 33) (.t 36)),jv 38 (.idx (.t 29) (.t 31) 1),jz (.store .s (.t 38) (.t 37))])
def zqU:AC:=(.seq (rr [jv 17 (.fld (.t 3) 0 0),jv 18 (.load .p (.t 17)),jv 19 (.idxA (.t 5) (jn 0) 2 1),jl 20 19,jv 21 (.idx (.t 18) (.t 20) 1),jl 22 21,jv 23 (.idxA (.t 5) (jn 1) 2 1),jl 24 23,jv 25 (.bin .shl (jn 1) (.t 24)),jv 26 (.bin .or (.t 22) (.t 25)),jv 27 (.idx (.t 18) (.t 20) 1),jz (.store .s (.t 27) (.t 26))]) zsO)
def zs8:AC:=(rr [jv 39 (.bin .add (.t 13) (jn 1)),jm 13 39])
def zuv:AC:=(.seq (.block 1 (.seq (.reg [.clr [5]] [jv 15 (.idx (.t 11) (.t 13) 2),jv 16 (.load (.ag [.s,.s]) (.t 15)),jx 5 (.alloc (.agg [i0,i0])),jz (.store (.ag [.s,.s]) (.t 5) (.t 16))] []) zqU)) zs8)
def zrN:AC:=(.seq (.cond (.t 14) .skip (.exit 0)) zuv)
def zha:AC:=(.seq (rr [jv 14 (.bin .lss (.t 13) (.t 12))]) zrN)
def zmO:AC:=(.seq (rr [jv 40 (.load (.ag [.p]) (.t 3)),jz (.store (.ag [.p]) (.t 2) (.t 40))]) .ret)
def zot:AC:=(.block 0 (.loop zha))
def zso:AC:=(.seq (.seq (rr [jv 10 (.fld (.t 1) 1 1),jv 11 (.load .p (.t 10)),jk 12 11,jv 13 (.mov (jn 0))]) zot) zmO)
def zt7:AC:=(.seq (.reg [.clr [8,3]] [jv 6 (.fld (.t 1) 0 0),jl 7 6,jx 8 (.mk (.t 7) i0 i0),jv 9 (.bld (.agg [.sl .nl .s 0 []]) [(0,0,.t 8)]),jx 3 (.alloc (.agg [.sl .nl .s 0 []])),jz (.store (.ag [.p]) (.t 3) (.t 9))] []) zso)
def A29:AC:=(.seq (.reg [.clr [1,2]] [jx 1 (.box (.t 0)),jx 2 (.alloc (.agg [.sl .nl .s 0 []]))] []) zt7)
def zvU:List An:=[⟨0,[.clr [1,2]],[],[],[]⟩,⟨1,[.clr [8,3]],[],[],[]⟩,⟨4,[.clr [5]],[],[],[]⟩]
theorem c29:cq Tp Try.f29 zvU=some A29:=by kernel_rfl
structure H29 (D:Den) (σ:Sig) (F:Nat):Prop where
 mk ::
abbrev R29 (r:(S1 LI)):(Nat→V)→Prop:=RR Tp [.cell 2 59] 0 false (enc (r:(S1 LI)))
section
variable {r:(S1 LI)}
def Y2 (F:Nat) (x1:GR) :Nat→LI→Int→Option (S1 LI)
 | 0,_,_=>none
 | k + 1,x10,x11=>
   bif decide (x11 < (x1.2.length:Int)) then
    (idx x1.2 x11).bind fun v19=>
    (idx x10 v19.1).bind fun v20=>
    (Uv .i64 1 v19.2).bind fun q21=>
    (idx x10 v19.1).bind fun v22=>
    (idx (x10.set v19.1.toNat (ior .i64 v20 q21)) v19.2).bind fun v23=>
    (Uv .i64 1 v19.1).bind fun q24=>
    (idx (x10.set v19.1.toNat (ior .i64 v20 q21)) v19.2).bind fun v25=>
    (Y2 F x1 k) ((x10.set v19.1.toNat (ior .i64 v20 q21)).set v19.2.toNat (ior .i64 v23 q24)) (w64 (x11 + 1))
   else
    some (S1.mk x10)
theorem zg5 (H:H29 D σ F) (x1:GR) :∀ (k:Nat) (x10:LI) (x11:Int) (s:Nat→V),zB [(2,.ref (.bx 2) 0 [] (.agg [nI])),(3,.ref (.bx 3) 0 [] (.agg [oI 8 [] (.of x10)])),(11,eP x1.2),(12,ji (x1.2.length:Int)),(13,ji x11)] s→Y2 F x1 k x10 x11=some r→Run D σ (R29 r) (.run zha [.lp zha,.bk 0,.sq zmO]) s:=by
 intro k
 induction k with
 | zero=>intro x10 x11 s _ h;exact nm h
 | succ k ih=>
   intro x10 x11 s hs h
   rw [Y2] at h
   obtain ⟨h2,h3,h11,h12,h13⟩:=hs
   refine .seq (rg (g2 13 12 (jb (decide (x11 < (x1.2.length:Int)))) h13 h12 fun h14=>gq (.nsq (.seq (zu h14 h (fun h=>?_) (fun h=>?_))))))
   · refine .skip (.nsq (.seq (.block (.seq (zC (yc ?_))))))
     refine ez [(2,_),(3,_),(5,_),(11,_),(12,_),(13,_)] ⟨za h2 rfl (zi rfl (zr (zc rfl zk))),za h3 rfl (zi rfl (zr (zc (zm (r:=8) (p:=[]) rfl rfl) zk))),zg rfl,za h11 rfl me,za h12 rfl mi,za h13 rfl mi⟩ ?_
     rintro s ⟨h2,h3,h5,h11,h12,h13⟩
     obtain ⟨v19,Ev19,h⟩:=zd h
     refine gv (.ref .sh 0 [] (.agg [ji v19.1,ji v19.2])) (yG (t:=.sh) (lo:=0) (xs:=x1.2) h11 h13 Ev19 rfl rfl) fun h15=>g1 15 (.agg [ji v19.1,ji v19.2]) h15 fun h16=>y6 h5 (zQ (.agg [ji v19.1,ji v19.2]) (zx rfl rfl) (zx h16 rfl) (xr (by first | rfl | simp [V.toks,V.tokss,toks_enc,zN])) ?_)
     refine gz [(2,.ref (.bx 2) 0 [] (.agg [nI])),(3,.ref (.bx 3) 0 [] (.agg [oI 8 [] (.of x10)])),(5,.ref (.bx 5) 0 [] (.agg [ji v19.1,ji v19.2])),(11,eP x1.2),(12,ji (x1.2.length:Int)),(13,ji x11)] ⟨zb h2 (zj rfl rfl (zK (zf rfl rfl))),zb h3 (zj rfl rfl (zK (zf (yg rfl rfl) rfl))),zb rfl rfl,zb h11 uE,zb h12 rfl,zb h13 rfl⟩ ?_
     rintro s ⟨h2,h3,h5,h11,h12,h13⟩
     refine .nsq (.seq (rg (g1 3 (.ref (.bx 3) 0 [0] (oI 8 [] (.of x10))) h3 fun h17=>g1 17 (oI 8 [] (.of x10)) h17 fun h18=>g1 5 (.ref (.bx 5) 0 [0] (ji v19.1)) h5 fun h19=>g1 19 (ji v19.1) h19 fun h20=>?_)))
     obtain ⟨v20,Ev20,h⟩:=zd h
     refine gv (.ref (.at 8 []) v19.1.toNat [] (ji v20)) (vi (o:=.of x10) h18 h20 Ev20 rfl) fun h21=>g1 21 (ji v20) h21 fun h22=>g1 5 (.ref (.bx 5) 0 [1] (ji v19.2)) h5 fun h23=>g1 23 (ji v19.2) h23 fun h24=>?_
     obtain ⟨q21,Eq21,h⟩:=zd h
     refine gv (ji q21) (Y1 rfl h24 Eq21) fun h25=>g2 22 25 (ji (ior .i64 v20 q21)) h22 h25 fun h26=>?_
     obtain ⟨v22,Ev22,h⟩:=zd h
     refine gv (.ref (.at 8 []) v19.1.toNat [] (ji v22)) (vi (o:=.of x10) h18 h20 Ev22 rfl) fun h27=>zQ (ji (ior .i64 v20 q21)) (zx h27 rfl) (zx h26 rfl) (xr (by first | rfl | simp [V.toks,V.tokss,toks_enc,zN])) (gz [(2,.ref (.bx 2) 0 [] (.agg [nI])),(3,.ref (.bx 3) 0 [] (.agg [oI 8 [] (.of (x10.set v19.1.toNat (ior .i64 v20 q21)))])),(5,.ref (.bx 5) 0 [] (.agg [ji v19.1,ji v19.2])),(11,eP x1.2),(12,ji (x1.2.length:Int)),(13,ji x11)] ⟨zb h2 (zj rfl rfl (zK (zf rfl rfl))),zb h3 (zj rfl rfl (zK (zf Kl rfl))),zb h5 rfl,zb h11 uE,zb h12 rfl,zb h13 rfl⟩ ?_)
     rintro s ⟨h2,h3,h5,h11,h12,h13⟩
     refine .nsq (rg (g1 3 (.ref (.bx 3) 0 [0] (oI 8 [] (.of (x10.set v19.1.toNat (ior .i64 v20 q21))))) h3 fun h28=>g1 28 (oI 8 [] (.of (x10.set v19.1.toNat (ior .i64 v20 q21)))) h28 fun h29=>g1 5 (.ref (.bx 5) 0 [1] (ji v19.2)) h5 fun h30=>g1 30 (ji v19.2) h30 fun h31=>?_))
     obtain ⟨v23,Ev23,h⟩:=zd h
     refine gv (.ref (.at 8 []) v19.2.toNat [] (ji v23)) (vi (o:=.of (x10.set v19.1.toNat (ior .i64 v20 q21))) h29 h31 Ev23 rfl) fun h32=>g1 32 (ji v23) h32 fun h33=>g1 5 (.ref (.bx 5) 0 [0] (ji v19.1)) h5 fun h34=>g1 34 (ji v19.1) h34 fun h35=>?_
     obtain ⟨q24,Eq24,h⟩:=zd h
     refine gv (ji q24) (Y1 rfl h35 Eq24) fun h36=>g2 33 36 (ji (ior .i64 v23 q24)) h33 h36 fun h37=>?_
     obtain ⟨v25,Ev25,h⟩:=zd h
     refine gv (.ref (.at 8 []) v19.2.toNat [] (ji v25)) (vi (o:=.of (x10.set v19.1.toNat (ior .i64 v20 q21))) h29 h31 Ev25 rfl) fun h38=>zQ (ji (ior .i64 v23 q24)) (zx h38 rfl) (zx h37 rfl) (xr (by first | rfl | simp [V.toks,V.tokss,toks_enc,zN])) ?_
     refine gz [(2,.ref (.bx 2) 0 [] (.agg [nI])),(3,.ref (.bx 3) 0 [] (.agg [oI 8 [] (.of ((x10.set v19.1.toNat (ior .i64 v20 q21)).set v19.2.toNat (ior .i64 v23 q24)))])),(11,eP x1.2),(12,ji (x1.2.length:Int)),(13,ji x11)] ⟨zb h2 (zj rfl rfl (zK (zf rfl rfl))),zb h3 (zj rfl rfl (zK (zf Kl rfl))),zb h11 uE,zb h12 rfl,zb h13 rfl⟩ ?_
     rintro s ⟨h2,h3,h11,h12,h13⟩
     refine .nbk (.nsq (rg (g1 13 (ji (w64 (x11 + 1))) h13 fun h39=>gm h39 fun h13=>gq (.nlp ?_))))
     exact ih ((x10.set v19.1.toNat (ior .i64 v20 q21)).set v19.2.toNat (ior .i64 v23 q24)) (w64 (x11 + 1)) _ ⟨h2,h3,h11,h12,h13⟩ h
   refine .exit (.esq (.elp (.ebk (.nsq (.seq (rg (g1 3 (.agg [oI 8 [] (.of x10)]) h3 fun h40=>zQ (.agg [oI 8 [] (.of x10)]) (zx h2 rfl) (zx h40 rfl) (xr (by first | rfl | simp [V.toks,V.tokss,toks_enc,zN])) (gz [(2,.ref (.bx 2) 0 [] (.agg [oI 8 [] (.of x10)]))] (zb h2 rfl) ?_))))))))
   rintro s h2
   refine .nsq (.ret ?_)
   obtain rfl:=oi h
   exact rrA (yL h2 (by kernel_rfl)) (Yx (uB (zW (xk (o:=.of x10)) xg)) (UT (Zw (vR rfl) WD)))
def ZX (F:Nat) (x1:GR):Option (S1 LI):=
 (mkN x1.1 (0:Int)).bind fun mk2=>
 Y2 F x1 F mk2 0
theorem t29 (H:H29 D σ F) (x1:GR) (s:Nat→V) (hs:zB [(0,gV x1)] s) (h:ZX F x1=some r):Run D σ (R29 r) (.run A29 []) s:=by
 unfold ZX at h
 have h0:=hs
 refine .seq (zC (yc ?_))
 refine ez [(0,_),(1,_),(2,_)] ⟨za h0 rfl mIE,zg rfl,zg rfl⟩ ?_
 rintro s ⟨h0,h1,h2⟩
 refine xU (gV x1) (zx h0 rfl) h1 rfl (y6 h2 (gq (.nsq (.seq (zC (yc ?_))))))
 refine ez [(1,_),(2,_),(3,_),(8,_)] ⟨za rfl rfl (zi rfl mIE),za rfl rfl (zi rfl (zr (zc rfl zk))),zg rfl,zg rfl⟩ ?_
 rintro s ⟨h1,h2,h3,h8⟩
 refine g1 1 (.ref (.bx 1) 0 [0] (ji x1.1)) h1 fun h6=>g1 6 (ji x1.1) h6 fun h7=>?_
 obtain ⟨mk2,Emk2,h⟩:=zd h
 refine znL (0:Int) h7 rfl h8 Emk2 (g1 8 (.agg [oI 8 [] (.of mk2)]) (rf (oI 8 [] (.of mk2))) fun h9=>y6 h3 (zQ (.agg [oI 8 [] (.of mk2)]) (zx rfl rfl) (zx h9 rfl) (xr (by first | rfl | simp [V.toks,V.tokss,toks_enc,zN])) (gz [(1,bG 1 x1),(2,.ref (.bx 2) 0 [] (.agg [nI])),(3,.ref (.bx 3) 0 [] (.agg [oI 8 [] (.of mk2)]))] ⟨zb h1 (zj rfl rfl uIE),zb h2 (zj rfl rfl (zK (zf rfl rfl))),zb rfl rfl⟩ ?_)))
 rintro s ⟨h1,h2,h3⟩
 refine .nsq (.seq (.seq (rg (g1 1 (.ref (.bx 1) 0 [1] (eP x1.2)) h1 fun h10=>g1 10 (eP x1.2) h10 fun h11=>gl x1.2 h11 fun h12=>g0 (ji 0) fun h13=>gq (.nsq (.block (.loop ?_)))))))
 exact zg5 H x1 F mk2 0 _ ⟨h2,h3,h11,h12,h13⟩ h
end
def e29 (F:Nat):Ent:=ent 29 (fun (x:(GR×Unit))=>ZX F x.1) (fun (r:(S1 LI))=>(enc (r:(S1 LI)))) 0 false []
abbrev C29 (D:List V→Option V) (F:Nat):Prop:=∀ (x0:GR) r,ZX F x0=some r→D [enc x0]=some (enc (r:(S1 LI)))
theorem p29 {F:Nat}:C29 (e29 F).den F:=fun x0 _ h=>zZ (x0,()) h
theorem o29 (hF:zH Tp D σ) (H:H29 D σ F):(e29 F).Ok Tp:=okZ (f:=29) Try.func29 fun ⟨x0,_⟩ y hy=>cR hF Try.func29 c29 (t29 H x0 _ rfl hy)
def zth:AC:=(.cond (.t 21) (rr [jm 22 5,jm 23 7,jv 24 (.bin .or (.t 22) (.t 23)),jm 5 24]) .skip)
def zpQ:AC:=(.seq (rr [jm 17 1,jm 18 6,jv 19 (.bin .shr (.t 17) (.t 18)),jv 20 (.bin .and (.t 19) (jn 1)),jv 21 (.bin .eql (.t 20) (jn 1))]) zth)
def zl8:AC:=(rr [jv 25 (.bin .add (.t 12) (jn 1)),jm 12 25])
def zro:AC:=(.seq (.block 1 (.seq (rr [jm 14 12,jv 15 (.idx (.t 10) (.t 12) 1),jl 16 15,jm 6 14,jm 7 16]) zpQ)) zl8)
def zp5:AC:=(.seq (.cond (.t 13) .skip (.exit 0)) zro)
def Q4:AC:=(.seq (rr [jv 13 (.bin .lss (.t 12) (.t 11))]) zp5)
def zgc:AC:=(.seq (rr [jm 26 5,jm 4 26]) .ret)
def zn6:AC:=(.block 0 (.loop Q4))
def zsK:AC:=(.seq (.seq (rr [jv 9 (.fld (.t 2) 0 0),jv 10 (.load .p (.t 9)),jk 11 10,jv 12 (.mov (jn 0))]) zn6) zgc)
def zqe:AC:=(.seq (rr [jm 8 1,jm 5 8]) zsK)
def A76:AC:=(.seq (.reg [.clr [2]] [jx 2 (.box (.t 0)),jv 4 (.mov (jn 0))] []) zqe)
def zv9:List An:=[⟨0,[.clr [2]],[],[],[]⟩]
theorem c76:cq Tp Try.f76 zv9=some A76:=by kernel_rfl
structure H76 (D:Den) (σ:Sig) (F:Nat):Prop where
 mk ::
abbrev R76 (r:Int):(Nat→V)→Prop:=RR Tp [.tmp 4] 0 false (enc (r:Int))
section
variable {r:Int}
def ZF (F:Nat) (x2:Int) (x1:(S1 LI)) (x7:Int) (c1:Int→Int→Option Int) (x13:Int):Option Int:=
 c1 x13 (w64 (x7 + 1))
theorem zcN (H:H76 D σ F) (x2:Int) (x1:(S1 LI)) (x7:Int) (c1:Int→Int→Option Int) (Hc1:∀ (x6:Int) (x7:Int) (s:Nat→V),zB [(1,ji x2),(4,ji 0),(5,ji x6),(10,eL x1.a),(11,ji (x1.a.length:Int)),(12,ji x7)] s→c1 x6 x7=some r→Run D σ (R76 r) (.run Q4 [.lp Q4,.bk 0,.sq zgc]) s) (x13:Int) (s:Nat→V) (hs:zB [(1,ji x2),(4,ji 0),(5,ji x13),(10,eL x1.a),(11,ji (x1.a.length:Int)),(12,ji x7)] s) (h:ZF F x2 x1 x7 c1 x13=some r):Run D σ (R76 r) (.nrm [.bk 1,.sq zl8,.lp Q4,.bk 0,.sq zgc]) s:=by
 unfold ZF at h
 obtain ⟨h1,h4,h5,h10,h11,h12⟩:=hs
 refine .nbk (.nsq (rg (g1 12 (ji (w64 (x7 + 1))) h12 fun h25=>gm h25 fun h12=>gq (.nlp ?_))))
 exact Hc1 x13 (w64 (x7 + 1)) _ ⟨h1,h4,h5,h10,h11,h12⟩ h
def wo (F:Nat) (x2:Int) (x1:(S1 LI)) :Nat→Int→Int→Option Int
 | 0,_,_=>none
 | k + 1,x6,x7=>
   bif decide (x7 < (x1.a.length:Int)) then
    (idx x1.a x7).bind fun v11=>
    (Um .i64 x2 x7).bind fun q12=>
    bif ((yI .i64 q12 1) == 1) then
     ZF F x2 x1 x7 (wo F x2 x1 k) (ior .i64 x6 v11)
    else
     ZF F x2 x1 x7 (wo F x2 x1 k) x6
   else
    some x6
theorem zhF (H:H76 D σ F) (x2:Int) (x1:(S1 LI)) :∀ (k:Nat) (x6:Int) (x7:Int) (s:Nat→V),zB [(1,ji x2),(4,ji 0),(5,ji x6),(10,eL x1.a),(11,ji (x1.a.length:Int)),(12,ji x7)] s→wo F x2 x1 k x6 x7=some r→Run D σ (R76 r) (.run Q4 [.lp Q4,.bk 0,.sq zgc]) s:=by
 intro k
 induction k with
 | zero=>intro x6 x7 s _ h;exact nm h
 | succ k ih=>
   intro x6 x7 s hs h
   rw [wo] at h
   obtain ⟨h1,h4,h5,h10,h11,h12⟩:=hs
   refine .seq (rg (g2 12 11 (jb (decide (x7 < (x1.a.length:Int)))) h12 h11 fun h13=>gq (.nsq (.seq (zu h13 h (fun h=>?_) (fun h=>?_))))))
   · refine .skip (.nsq (.seq (.block (.seq (rg (gm h12 fun h14=>?_))))))
     obtain ⟨v11,Ev11,h⟩:=zd h
     refine gv (.ref .sh 0 [] (ji v11)) (yG (t:=.sh) (lo:=0) (xs:=x1.a) h10 h12 Ev11 rfl rfl) fun h15=>g1 15 (ji v11) h15 fun h16=>gm h14 fun h6=>gm h16 fun h7=>gq (.nsq (.seq (rg (gm h1 fun h17=>gm h6 fun h18=>?_))))
     obtain ⟨q12,Eq12,h⟩:=zd h
     refine gv (ji q12) (Wi h17 h18 Eq12) fun h19=>g1 19 (ji (yI .i64 q12 1)) h19 fun h20=>g1 20 (jb ((yI .i64 q12 1) == 1)) h20 fun h21=>gq (.nsq (zu h21 h (fun h=>?_) (fun h=>?_)))
     · refine rg (gm h5 fun h22=>gm h7 fun h23=>g2 22 23 (ji (ior .i64 x6 v11)) h22 h23 fun h24=>gm h24 fun h5=>gq ?_)
       exact zcN H x2 x1 x7 (wo F x2 x1 k) ih (ior .i64 x6 v11) _ ⟨h1,h4,h5,h10,h11,h12⟩ h
     refine .skip ?_
     exact zcN H x2 x1 x7 (wo F x2 x1 k) ih x6 _ ⟨h1,h4,h5,h10,h11,h12⟩ h
   refine .exit (.esq (.elp (.ebk (.nsq (.seq (rg (gm h5 fun h26=>gm h26 fun h4=>gq (.nsq (.ret ?_)))))))))
   obtain rfl:=oi h
   exact rrA (zA h4) rfl
def uJ (F:Nat) (x1:(S1 LI)) (x2:Int):Option Int:=
 wo F x2 x1 F x2 0
theorem t76 (H:H76 D σ F) (x1:(S1 LI)) (x2:Int) (s:Nat→V) (hs:zB [(0,.agg [eL x1.a]),(1,ji x2)] s) (h:uJ F x1 x2=some r):Run D σ (R76 r) (.run A76 []) s:=by
 unfold uJ at h
 obtain ⟨h0,h1⟩:=hs
 refine .seq (zC (yc ?_))
 refine ez [(0,_),(1,_),(2,_)] ⟨za h0 rfl (zr (zc me zk)),za h1 rfl mi,zg rfl⟩ ?_
 rintro s ⟨h0,h1,h2⟩
 refine xU (.agg [eL x1.a]) (zx h0 rfl) h2 rfl (g0 (ji 0) fun h4=>gq (.nsq (.seq (rg (gm h1 fun h8=>gm h8 fun h5=>gq (.nsq (.seq (.seq (rg (g1 2 (.ref (.bx 2) 0 [0] (eL x1.a)) (rf (.ref (.bx 2) 0 [] (.agg [eL x1.a]))) fun h9=>g1 9 (eL x1.a) h9 fun h10=>gl x1.a h10 fun h11=>g0 (ji 0) fun h12=>gq (.nsq (.block (.loop ?_)))))))))))))
 exact zhF H x2 x1 F x2 0 _ ⟨h1,h4,h5,h10,h11,h12⟩ h
end
def e76 (F:Nat):Ent:=ent 76 (fun (x:((S1 LI)×Int×Unit))=>uJ F x.1 x.2.1) (fun (r:Int)=>(enc (r:Int))) 0 false []
abbrev C76 (D:List V→Option V) (F:Nat):Prop:=∀ (x0:(S1 LI)) (x1:Int) r,uJ F x0 x1=some r→D [enc x0,enc x1]=some (enc (r:Int))
theorem p76 {F:Nat}:C76 (e76 F).den F:=fun x0 x1 _ h=>zZ (x0,x1,()) h
theorem o76 (hF:zH Tp D σ) (H:H76 D σ F):(e76 F).Ok Tp:=okZ (f:=76) Try.func76 fun ⟨x0,x1,_⟩ y hy=>cR hF Try.func76 c76 (t76 H x0 x1 _ ⟨rfl,rfl⟩ hy)
def zvl:AC:=(.cond (.t 9) .skip (.exit 0))
def zvr:AC:=(.cond (.t 21) (.exit 2) .skip)
def zuy:AC:=(rr [jm 22 7,jm 6 22])
def zve:AC:=(.seq (.seq (rr [jm 19 7,jm 20 6,jv 21 (.bin .eql (.t 19) (.t 20))]) zvr) zuy)
def zhy:AC:=(.block 3 (.seq (rr [jv 14 (.load (.ag [.p]) (.t 2)),jm 15 6,jx 16 (.call (jf 76) [.t 14,.t 15]),jm 17 1,jv 18 (.bin .and (.t 16) (.t 17)),jm 7 18]) zve))
def zoi:AC:=(rr [jm 27 1,jm 28 6,jv 29 (.bin .andNot (.t 27) (.t 28)),jm 1 29])
def zmg:AC:=(.seq (.reg [.clr [25,26]] [jm 23 5,jm 24 6,jx 25 (.lit i0 1 [(0,0,.t 24)]),jx 26 (.app .s (.t 23) (.t 25)),jm 5 26] [.home 26 5]) zoi)
def zpR:AC:=(.seq (.block 2 (.loop zhy)) zmg)
def zvG:AC:=(.block 1 (.seq (rr [jm 10 1,jm 11 1,jv 12 (.un .neg (.t 11)),jv 13 (.bin .and (.t 10) (.t 12)),jm 6 13]) zpR))
def QW:AC:=(.seq (.seq (rr [jm 8 1,jv 9 (.bin .neq (.t 8) (jn 0))]) zvl) zvG)
def zaH:AC:=(.seq (.reg [] [jm 30 5,jm 4 30] [.home 5 4]) .ret)
def zpx:AC:=(.seq (.block 0 (.loop QW)) zaH)
def zpc:AC:=(.seq (rr [jv 5 (.mov (.k (.sl .nl .s 0 [])))]) zpx)
def A47:AC:=(.seq (.reg [.clr [2]] [jx 2 (.box (.t 0)),jv 4 (.mov (.k (.sl .nl .s 0 [])))] []) zpc)
def zwt:List An:=[⟨0,[.clr [2]],[],[],[]⟩,⟨7,[.clr [25,26]],[],[],[.home 26 5]⟩,⟨9,[],[],[],[.home 5 4]⟩]
theorem c47:cq Tp Try.f47 zwt=some A47:=by kernel_rfl
structure H47 (D:Den) (σ:Sig) (F:Nat):Prop where
 c76:C76 (D 76) F
 g76:σ 76=some (0,false)
abbrev R47 (r:LI):(Nat→V)→Prop:=RR Tp [.tmp 4] 0 false (eL r)
section
variable {r:LI}
def uf (F:Nat) (x8:Int) (x1:(S1 LI)) (x9:(NL Int)) (c1:Int→(NL Int)→Option LI):Nat→Int→Option LI
 | 0,_=>none
 | k + 1,x16=>
   (uJ F x1 x16).bind fun r18=>
   bif ((yI .i64 r18 x8) == x16) then
    (vh x9.list [x16]).bind fun ap19=>
    c1 (yx .i64 x8 x16) (.of ap19)
   else
    (uf F x8 x1 x9 c1 k) (yI .i64 r18 x8)
theorem zih (H:H47 D σ F) (x8:Int) (x1:(S1 LI)) (x9:(NL Int)) (c1:Int→(NL Int)→Option LI) (Hc1:∀ (x8:Int) (x9:(NL Int)) (s:Nat→V),zB [(1,ji x8),(2,.ref (.bx 2) 0 [] (.agg [eL x1.a])),(4,nI),(5,oI 5 [] x9)] s→c1 x8 x9=some r→Run D σ (R47 r) (.run QW [.lp QW,.bk 0,.sq zaH]) s):∀ (k:Nat) (x16:Int) (s:Nat→V),zB [(1,ji x8),(2,.ref (.bx 2) 0 [] (.agg [eL x1.a])),(4,nI),(5,oI 5 [] x9),(6,ji x16)] s→uf F x8 x1 x9 c1 k x16=some r→Run D σ (R47 r) (.run zhy [.lp zhy,.bk 2,.sq zmg,.bk 1,.lp QW,.bk 0,.sq zaH]) s:=by
 intro k
 induction k with
 | zero=>intro x16 s _ h;exact nm h
 | succ k ih=>
   intro x16 s hs h
   rw [uf] at h
   obtain ⟨h1,h2,h4,h5,h6⟩:=hs
   refine .block (.seq (rg (g1 2 (.agg [eL x1.a]) h2 fun h14=>gm h6 fun h15=>?_)))
   obtain ⟨r18,Er18,h⟩:=zd h
   refine gcF [enc (x1:(S1 LI)),enc (x16:Int)] (zl h14 rfl (erase_enc (x1:(S1 LI))) (zl h15 rfl rfl zJ)) (H.c76 _ _ _ Er18) H.g76 (gm h1 fun h17=>g2 16 17 (ji (yI .i64 r18 x8)) (rf (ji r18)) h17 fun h18=>gm h18 fun h7=>gq (.nsq (.seq (.seq (rg (gm h7 fun h19=>gm h6 fun h20=>g2 19 20 (jb ((yI .i64 r18 x8) == x16)) h19 h20 fun h21=>gq (.nsq (zu h21 h (fun h=>?_) (fun h=>?_)))))))))
   · refine .exit (.esq (.ebn (by decide) (.elp (.ebk (.nsq (.seq (zC (yc ?_))))))))
     refine ez [(1,_),(2,_),(4,_),(5,_),(6,_),(25,_),(26,_)] ⟨za h1 rfl mi,za h2 rfl (zi rfl (zr (zc me zk))),za h4 rfl rfl,za h5 rfl (zm (r:=5) (p:=[]) rfl rfl),za h6 rfl mi,zg rfl,zg rfl⟩ ?_
     rintro s ⟨h1,h2,h4,h5,h6,h25,h26⟩
     refine gv (oI 5 [] x9) (Uo h5 YR) fun h23=>gm h6 fun h24=>xv [(24,ji x16)] [enc (x16:Int)] h24 rfl rfl h25 ?_
     obtain ⟨ap19,Eap19,h⟩:=zd h
     refine ZG (q:=5) (p:=[]) (o:=(x9:NL Int)) (ys:=([x16]:LI)) (t2:=.at 25 []) (lo2:=0) h23 rfl rfl h26 (vK (o:=(x9:NL Int)) Eap19 (by split <;> simp)) (fun s9 ha9=>gm (rf (oI 26 [] (.of ap19))) fun h5=>xf (yR (r:=26) (x:=5) (v:=_) h5 rfl (fun s10 hz10=>?_)))
     refine ez [(1,ji x8),(2,.ref (.bx 2) 0 [] (.agg [eL x1.a])),(4,nI),(5,oI 5 [] (.of ap19)),(6,ji x16)] ⟨hz10 1 _ _ (show s9 1=(ji x8) from zF ha9 h1 mi) mi,hz10 2 _ _ (show s9 2=(.ref (.bx 2) 0 [] (.agg [eL x1.a])) from zF ha9 h2 (zi rfl (zr (zc me zk)))) (zi rfl (zr (zc me zk))),hz10 4 _ nI (show s9 4=nI from zF ha9 h4 rfl) rfl,hz10 5 _ _ h5 (zm (r:=26) (p:=[]) rfl rfl),hz10 6 _ _ (show s9 6=(ji x16) from zF ha9 h6 mi) mi⟩ ?_
     rintro s ⟨h1,h2,h4,h5,h6⟩
     refine .nsq (rg (gm h1 fun h27=>gm h6 fun h28=>g2 27 28 (ji (yx .i64 x8 x16)) h27 h28 fun h29=>gm h29 fun h1=>gq (.nbk (.nlp ?_))))
     exact Hc1 (yx .i64 x8 x16) (.of ap19) _ ⟨h1,h2,h4,h5⟩ h
   refine .skip (.nsq (rg (gm h7 fun h22=>gm h22 fun h6=>gq (.nbk (.nlp ?_)))))
   exact ih (yI .i64 r18 x8) _ ⟨h1,h2,h4,h5,h6⟩ h
def wL (F:Nat) (x1:(S1 LI)) :Nat→Int→(NL Int)→Option LI
 | 0,_,_=>none
 | k + 1,x8,x9=>
   bif (x8 != 0) then
    uf F x8 x1 x9 (wL F x1 k) F (yI .i64 x8 (w64 (0 - x8)))
   else
    some x9.list
theorem zka (H:H47 D σ F) (x1:(S1 LI)) :∀ (k:Nat) (x8:Int) (x9:(NL Int)) (s:Nat→V),zB [(1,ji x8),(2,.ref (.bx 2) 0 [] (.agg [eL x1.a])),(4,nI),(5,oI 5 [] x9)] s→wL F x1 k x8 x9=some r→Run D σ (R47 r) (.run QW [.lp QW,.bk 0,.sq zaH]) s:=by
 intro k
 induction k with
 | zero=>intro x8 x9 s _ h;exact nm h
 | succ k ih=>
   intro x8 x9 s hs h
   rw [wL] at h
   obtain ⟨h1,h2,h4,h5⟩:=hs
   refine .seq (.seq (rg (gm h1 fun h8=>g1 8 (jb (x8 != 0)) h8 fun h9=>gq (.nsq (zu h9 h (fun h=>?_) (fun h=>?_))))))
   · refine .skip (.nsq (.block (.seq (rg (gm h1 fun h10=>gm h1 fun h11=>g1 11 (ji (w64 (0 - x8))) h11 fun h12=>g2 10 12 (ji (yI .i64 x8 (w64 (0 - x8)))) h10 h12 fun h13=>gm h13 fun h6=>gq (.nsq (.seq (.block (.loop ?_)))))))))
     exact zih H x8 x1 x9 (wL F x1 k) ih F (yI .i64 x8 (w64 (0 - x8))) _ ⟨h1,h2,h4,h5,h6⟩ h
   refine .exit (.esq (.elp (.ebk (.nsq (.seq (rg (gv (oI 5 [] x9) (Uo h5 YR) fun h30=>gv (oI 5 [] x9) (Uo h30 YR) fun h4=>xf (yR (r:=5) (x:=4) (v:=_) h4 YR (fun s11 hz11=>?_)))))))))
   refine ez [(4,oI 4 [] x9)] (hz11 4 _ _ h4 (zm (r:=5) (p:=[]) rfl rfl)) ?_
   rintro s h4
   refine .nsq (.ret ?_)
   obtain rfl:=oi h
   exact rrA (zA h4) (Yx (xk (o:=x9)) (vR rfl))
def uF (F:Nat) (x1:(S1 LI)) (x2:Int):Option LI:=
 wL F x1 F x2 .nil
theorem t47 (H:H47 D σ F) (x1:(S1 LI)) (x2:Int) (s:Nat→V) (hs:zB [(0,.agg [eL x1.a]),(1,ji x2)] s) (h:uF F x1 x2=some r):Run D σ (R47 r) (.run A47 []) s:=by
 unfold uF at h
 obtain ⟨h0,h1⟩:=hs
 refine .seq (zC (yc ?_))
 refine ez [(0,_),(1,_),(2,_)] ⟨za h0 rfl (zr (zc me zk)),za h1 rfl mi,zg rfl⟩ ?_
 rintro s ⟨h0,h1,h2⟩
 refine xU (.agg [eL x1.a]) (zx h0 rfl) h2 rfl (g0 nI fun h4=>gq (.nsq (.seq (rg (g0 nI fun h5=>gq (.nsq (.seq (.block (.loop ?_)))))))))
 exact zka H x1 F x2 .nil _ ⟨h1,rfl,h4,h5⟩ h
end
def e47 (F:Nat):Ent:=ent 47 (fun (x:((S1 LI)×Int×Unit))=>uF F x.1 x.2.1) (fun (r:LI)=>(eL r)) 0 false []
abbrev C47 (D:List V→Option V) (F:Nat):Prop:=∀ (x0:(S1 LI)) (x1:Int) r,uF F x0 x1=some r→D [enc x0,enc x1]=some (eL r)
theorem p47 {F:Nat}:C47 (e47 F).den F:=fun x0 x1 _ h=>zZ (x0,x1,()) h
theorem o47 (hF:zH Tp D σ) (H:H47 D σ F):(e47 F).Ok Tp:=okZ (f:=47) Try.func47 fun ⟨x0,x1,_⟩ y hy=>cR hF Try.func47 c47 (t47 H x0 x1 _ ⟨rfl,rfl⟩ hy)
def zqk:AC:=(.cond (.t 19) (.seq (rr [jv 6 (.mov kf)]) .ret) .skip)
def zrg:AC:=(.seq (rr [jm 15 8,jm 16 1,jm 17 2,jx 18 (.call (jf 45) [.t 15,.t 16,.t 17]),jv 19 (.un .not (.t 18))]) zqk)
def zuE:AC:=(rr [jv 20 (.bin .add (.t 11) (jn 1)),jm 11 20])
def zsT:AC:=(.seq (.block 1 (.seq (rr [jv 13 (.idx (.t 9) (.t 11) 1),jl 14 13,jm 8 14]) zrg)) zuE)
def zqh:AC:=(.seq (.cond (.t 12) .skip (.exit 0)) zsT)
def zkc:AC:=(.seq (rr [jv 12 (.bin .lss (.t 11) (.t 10))]) zqh)
def zml:AC:=(.seq (rr [jv 6 (.mov kt)]) .ret)
def zu3:AC:=(.block 0 (.loop zkc))
def zrc:AC:=(.seq (.seq (rr [jm 9 0,jk 10 9,jv 11 (.mov (jn 0))]) zu3) zml)
def A58:AC:=(.seq (rr [jv 6 (.mov kf)]) zrc)
def zwb:List An:=[]
theorem c58:cq Tp Try.f58 zwb=some A58:=by kernel_rfl
structure H58 (D:Den) (σ:Sig) (F:Nat):Prop where
 c45:C45 (D 45) F
 g45:σ 45=some (0,false)
abbrev R58 (r:Bool):(Nat→V)→Prop:=RR Tp [.tmp 6] 0 false (enc (r:Bool))
section
variable {r:Bool}
def wK (F:Nat) (x2:Int) (x3:Int) (x1:LI) :Nat→Int→Option Bool
 | 0,_=>none
 | k + 1,x6=>
   bif decide (x6 < (x1.length:Int)) then
    (idx x1 x6).bind fun v9=>
    (Wb F v9 x2 x3).bind fun r10=>
    bif (!r10) then
     some false
    else
     (wK F x2 x3 x1 k) (w64 (x6 + 1))
   else
    some true
theorem zj0 (H:H58 D σ F) (x2:Int) (x3:Int) (x1:LI) :∀ (k:Nat) (x6:Int) (s:Nat→V),zB [(1,ji x2),(2,ji x3),(6,jb false),(9,eL x1),(10,ji (x1.length:Int)),(11,ji x6)] s→wK F x2 x3 x1 k x6=some r→Run D σ (R58 r) (.run zkc [.lp zkc,.bk 0,.sq zml]) s:=by
 intro k
 induction k with
 | zero=>intro x6 s _ h;exact nm h
 | succ k ih=>
   intro x6 s hs h
   rw [wK] at h
   obtain ⟨h1,h2,h6,h9,h10,h11⟩:=hs
   refine .seq (rg (g2 11 10 (jb (decide (x6 < (x1.length:Int)))) h11 h10 fun h12=>gq (.nsq (.seq (zu h12 h (fun h=>?_) (fun h=>?_))))))
   · refine .skip (.nsq (.seq (.block (.seq (rg ?_)))))
     obtain ⟨v9,Ev9,h⟩:=zd h
     refine gv (.ref .sh 0 [] (ji v9)) (yG (t:=.sh) (lo:=0) (xs:=x1) h9 h11 Ev9 rfl rfl) fun h13=>g1 13 (ji v9) h13 fun h14=>gm h14 fun h8=>gq (.nsq (.seq (rg (gm h8 fun h15=>gm h1 fun h16=>gm h2 fun h17=>?_))))
     obtain ⟨r10,Er10,h⟩:=zd h
     refine gcF [enc (v9:Int),enc (x2:Int),enc (x3:Int)] (zl h15 rfl rfl (zl h16 rfl rfl (zl h17 rfl rfl zJ))) (H.c45 _ _ _ _ Er10) H.g45 (g1 18 (jb (!r10)) (rf (jb r10)) fun h19=>gq (.nsq (zu h19 h (fun h=>?_) (fun h=>?_))))
     · refine .seq (rg (g0 (jb false) fun h6=>gq (.nsq (.ret ?_))))
       obtain rfl:=oi h
       exact rrA (zA h6) rfl
     refine .skip (.nbk (.nsq (rg (g1 11 (ji (w64 (x6 + 1))) h11 fun h20=>gm h20 fun h11=>gq (.nlp ?_)))))
     exact ih (w64 (x6 + 1)) _ ⟨h1,h2,h6,h9,h10,h11⟩ h
   refine .exit (.esq (.elp (.ebk (.nsq (.seq (rg (g0 (jb true) fun h6=>gq (.nsq (.ret ?_)))))))))
   obtain rfl:=oi h
   exact rrA (zA h6) rfl
def uN (F:Nat) (x1:LI) (x2:Int) (x3:Int):Option Bool:=
 wK F x2 x3 x1 F 0
theorem t58 (H:H58 D σ F) (x1:LI) (x2:Int) (x3:Int) (s:Nat→V) (hs:zB [(0,eL x1),(1,ji x2),(2,ji x3)] s) (h:uN F x1 x2 x3=some r):Run D σ (R58 r) (.run A58 []) s:=by
 unfold uN at h
 obtain ⟨h0,h1,h2⟩:=hs
 refine .seq (rg (g0 (jb false) fun h6=>gq (.nsq (.seq (.seq (rg (gm h0 fun h9=>gl x1 h9 fun h10=>g0 (ji 0) fun h11=>gq (.nsq (.block (.loop ?_))))))))))
 exact zj0 H x2 x3 x1 F 0 _ ⟨h1,h2,h6,h9,h10,h11⟩ h
end
def e58 (F:Nat):Ent:=ent 58 (fun (x:(LI×Int×Int×Unit))=>uN F x.1 x.2.1 x.2.2.1) (fun (r:Bool)=>(enc (r:Bool))) 0 false []
abbrev C58 (D:List V→Option V) (F:Nat):Prop:=∀ (x0:LI) (x1:Int) (x2:Int) r,uN F x0 x1 x2=some r→D [enc x0,enc x1,enc x2]=some (enc (r:Bool))
theorem p58 {F:Nat}:C58 (e58 F).den F:=fun x0 x1 x2 _ h=>zZ (x0,x1,x2,()) h
theorem o58 (hF:zH Tp D σ) (H:H58 D σ F):(e58 F).Ok Tp:=okZ (f:=58) Try.func58 fun ⟨x0,x1,x2,_⟩ y hy=>cR hF Try.func58 c58 (t58 H x0 x1 x2 _ ⟨rfl,rfl,rfl⟩ hy)
def zub:AC:=(.seq (rr [jv 5 (.load (.ag [.s,.p]) (.t 2)),jx 6 (.call (jf 22) [.t 5]),jm 7 6,jg 8 7 true (.mov (.t 1)),jg 9 7 true (.fld (.t 2) 0 0),jg 10 7 true (.load .s (.t 9)),jg 11 7 true (.bin .sub (.t 10) (jn 1)),.mk (some 12) (some (7,true)) false (.call (jf 58) [.t 8,jn 0,.t 11]),jv 13 (.pick (.t 7) (.t 12) kf),jm 4 13]) .ret)
def A77:AC:=(.seq (.reg [.clr [2]] [jx 2 (.box (.t 0)),jv 4 (.mov kf)] []) zub)
def zws:List An:=[⟨0,[.clr [2]],[],[],[]⟩]
theorem c77:cq Tp Try.f77 zws=some A77:=by kernel_rfl
structure H77 (D:Den) (σ:Sig) (F:Nat):Prop where
 c22:C22 (D 22) F
 g22:σ 22=some (0,false)
 c58:C58 (D 58) F
 g58:σ 58=some (0,false)
abbrev R77 (r:Bool):(Nat→V)→Prop:=RR Tp [.tmp 4] 0 false (enc (r:Bool))
section
variable {r:Bool}
def XJ (F:Nat) (x1:GR) (x2:LI):Option Bool:=
 (vl F x1).bind fun r3=>
 bif r3 then
  (uN F x2 0 (w64 (x1.1 - 1))).bind fun r4=>
  some r4
 else
  some false
theorem t77 (H:H77 D σ F) (x1:GR) (x2:LI) (s:Nat→V) (hs:zB [(0,gV x1),(1,eL x2)] s) (h:XJ F x1 x2=some r):Run D σ (R77 r) (.run A77 []) s:=by
 unfold XJ at h
 obtain ⟨h0,h1⟩:=hs
 refine .seq (zC (yc ?_))
 refine ez [(0,_),(1,_),(2,_)] ⟨za h0 rfl mIE,za h1 rfl me,zg rfl⟩ ?_
 rintro s ⟨h0,h1,h2⟩
 refine xU (gV x1) (zx h0 rfl) h2 rfl (g0 (jb false) fun h4=>gq (.nsq (.seq (rg (g1 2 (gV x1) (rf (bG 2 x1)) fun h5=>?_)))))
 obtain ⟨r3,Er3,h⟩:=zd h
 refine gcF [enc (x1:GR)] (zl h5 rfl (erase_enc (x1:GR)) zJ) (H.c22 _ _ Er3) H.g22 (gm (rf (jb r3)) fun h7=>yd h (fun hg3 h=>?_) (fun hg3 h=>?_))
 · refine zt (ct h7 hg3) (gm h1 fun h8=>zt (ct h7 hg3) (g1 2 (.ref (.bx 2) 0 [0] (ji x1.1)) (rf (bG 2 x1)) fun h9=>zt (ct h7 hg3) (g1 9 (ji x1.1) h9 fun h10=>zt (ct h7 hg3) (g1 10 (ji (w64 (x1.1 - 1))) h10 fun h11=>?_))))
   obtain ⟨r4,Er4,h⟩:=zd h
   refine zt (ct h7 hg3) (gcF [eL x2,enc (0:Int),enc (w64 (x1.1 - 1):Int)] (zl h8 rfl (erase_enc (x2:LI)) (zl (v:=ji 0) rfl rfl rfl (zl h11 rfl rfl zJ))) (H.c58 _ _ _ _ Er4) H.g58 (g2 7 12 (jb r4) (ct h7 hg3) (rf (jb r4)) fun h13=>gm h13 fun h4=>gq (.nsq (.ret ?_))))
   obtain rfl:=oi h
   exact rrA (zA h4) rfl
 iterate 5 refine yq (ct h7 hg3) ?_
 refine g2 7 12 (jb false) (ct h7 hg3) (rf (.tup [])) fun h13=>gm h13 fun h4=>gq (.nsq (.ret ?_))
 obtain rfl:=oi h
 exact rrA (zA h4) rfl
end
def e77 (F:Nat):Ent:=ent 77 (fun (x:(GR×LI×Unit))=>XJ F x.1 x.2.1) (fun (r:Bool)=>(enc (r:Bool))) 0 false []
abbrev C77 (D:List V→Option V) (F:Nat):Prop:=∀ (x0:GR) (x1:LI) r,XJ F x0 x1=some r→D [enc x0,enc x1]=some (enc (r:Bool))
theorem p77 {F:Nat}:C77 (e77 F).den F:=fun x0 x1 _ h=>zZ (x0,x1,()) h
theorem o77 (hF:zH Tp D σ) (H:H77 D σ F):(e77 F).Ok Tp:=okZ (f:=77) Try.func77 fun ⟨x0,x1,_⟩ y hy=>cR hF Try.func77 c77 (t77 H x0 x1 _ ⟨rfl,rfl⟩ hy)
def zsc:AC:=(.cond (.t 7) .skip (.exit 0))
def ztn:AC:=(.cond (.t 19) (.seq (rr [jv 2 (.mov kf)]) .ret) .skip)
def zr6:AC:=(rr [jm 8 3,jv 9 (.bin .add (.t 8) (jn 1)),jm 3 9])
def zuf:AC:=(.seq (.block 1 (.seq (rr [jm 10 0,jm 11 3,jv 12 (.bin .sub (.t 11) (jn 1)),jv 13 (.idx (.t 10) (.t 12) 1),jl 14 13,jm 15 0,jm 16 3,jv 17 (.idx (.t 15) (.t 16) 1),jl 18 17,jv 19 (.bin .geq (.t 14) (.t 18))]) ztn)) zr6)
def zjP:AC:=(.seq (.seq (rr [jm 4 3,jm 5 0,jk 6 5,jv 7 (.bin .lss (.t 4) (.t 6))]) zsc) zuf)
def zmv:AC:=(.seq (rr [jv 2 (.mov kt)]) .ret)
def ztp:AC:=(.block 0 (.loop zjP))
def zsq:AC:=(.seq (.seq (rr [jv 3 (.mov (jn 1))]) ztp) zmv)
def A78:AC:=(.seq (rr [jv 2 (.mov kf)]) zsq)
def zwV:List An:=[]
theorem c78:cq Tp Try.f78 zwV=some A78:=by kernel_rfl
structure H78 (D:Den) (σ:Sig) (F:Nat):Prop where
 mk ::
abbrev R78 (r:Bool):(Nat→V)→Prop:=RR Tp [.tmp 2] 0 false (enc (r:Bool))
section
variable {r:Bool}
def wr (F:Nat) (x1:LI) :Nat→Int→Option Bool
 | 0,_=>none
 | k + 1,x4=>
   bif decide (x4 < (x1.length:Int)) then
    (idx x1 (w64 (x4 - 1))).bind fun v7=>
    (idx x1 x4).bind fun v8=>
    bif decide (v7≥v8) then
     some false
    else
     (wr F x1 k) (w64 (x4 + 1))
   else
    some true
theorem ziv (H:H78 D σ F) (x1:LI) :∀ (k:Nat) (x4:Int) (s:Nat→V),zB [(0,eL x1),(2,jb false),(3,ji x4)] s→wr F x1 k x4=some r→Run D σ (R78 r) (.run zjP [.lp zjP,.bk 0,.sq zmv]) s:=by
 intro k
 induction k with
 | zero=>intro x4 s _ h;exact nm h
 | succ k ih=>
   intro x4 s hs h
   rw [wr] at h
   obtain ⟨h0,h2,h3⟩:=hs
   refine .seq (.seq (rg (gm h3 fun h4=>gm h0 fun h5=>gl x1 h5 fun h6=>g2 4 6 (jb (decide (x4 < (x1.length:Int)))) h4 h6 fun h7=>gq (.nsq (zu h7 h (fun h=>?_) (fun h=>?_))))))
   · refine .skip (.nsq (.seq (.block (.seq (rg (gm h0 fun h10=>gm h3 fun h11=>g1 11 (ji (w64 (x4 - 1))) h11 fun h12=>?_))))))
     obtain ⟨v7,Ev7,h⟩:=zd h
     refine gv (.ref .sh 0 [] (ji v7)) (yG (t:=.sh) (lo:=0) (xs:=x1) h10 h12 Ev7 rfl rfl) fun h13=>g1 13 (ji v7) h13 fun h14=>gm h0 fun h15=>gm h3 fun h16=>?_
     obtain ⟨v8,Ev8,h⟩:=zd h
     refine gv (.ref .sh 0 [] (ji v8)) (yG (t:=.sh) (lo:=0) (xs:=x1) h15 h16 Ev8 rfl rfl) fun h17=>g1 17 (ji v8) h17 fun h18=>g2 14 18 (jb (decide (v7≥v8))) h14 h18 fun h19=>gq (.nsq (zu h19 h (fun h=>?_) (fun h=>?_)))
     · refine .seq (rg (g0 (jb false) fun h2=>gq (.nsq (.ret ?_))))
       obtain rfl:=oi h
       exact rrA (zA h2) rfl
     refine .skip (.nbk (.nsq (rg (gm h3 fun h8=>g1 8 (ji (w64 (x4 + 1))) h8 fun h9=>gm h9 fun h3=>gq (.nlp ?_)))))
     exact ih (w64 (x4 + 1)) _ ⟨h0,h2,h3⟩ h
   refine .exit (.esq (.elp (.ebk (.nsq (.seq (rg (g0 (jb true) fun h2=>gq (.nsq (.ret ?_)))))))))
   obtain rfl:=oi h
   exact rrA (zA h2) rfl
def Yg (F:Nat) (x1:LI):Option Bool:=
 wr F x1 F 1
theorem t78 (H:H78 D σ F) (x1:LI) (s:Nat→V) (hs:zB [(0,eL x1)] s) (h:Yg F x1=some r):Run D σ (R78 r) (.run A78 []) s:=by
 unfold Yg at h
 have h0:=hs
 refine .seq (rg (g0 (jb false) fun h2=>gq (.nsq (.seq (.seq (rg (g0 (ji 1) fun h3=>gq (.nsq (.block (.loop ?_))))))))))
 exact ziv H x1 F 1 _ ⟨h0,h2,h3⟩ h
end
def e78 (F:Nat):Ent:=ent 78 (fun (x:(LI×Unit))=>Yg F x.1) (fun (r:Bool)=>(enc (r:Bool))) 0 false []
abbrev C78 (D:List V→Option V) (F:Nat):Prop:=∀ (x0:LI) r,Yg F x0=some r→D [enc x0]=some (enc (r:Bool))
theorem p78 {F:Nat}:C78 (e78 F).den F:=fun x0 _ h=>zZ (x0,()) h
theorem o78 (hF:zH Tp D σ) (H:H78 D σ F):(e78 F).Ok Tp:=okZ (f:=78) Try.func78 fun ⟨x0,_⟩ y hy=>cR hF Try.func78 c78 (t78 H x0 _ rfl hy)
def zvD:AC:=(.seq (rr [jv 5 (.load (.ag [.s,.p]) (.t 2)),jm 6 1,jx 7 (.call (jf 77) [.t 5,.t 6]),jm 8 7,jg 9 8 true (.mov (.t 1)),.mk (some 10) (some (8,true)) false (.call (jf 78) [.t 9]),jv 11 (.pick (.t 8) (.t 10) kf),jm 4 11]) .ret)
def A48:AC:=(.seq (.reg [.clr [2]] [jx 2 (.box (.t 0)),jv 4 (.mov kf)] []) zvD)
def zvQ:List An:=[⟨0,[.clr [2]],[],[],[]⟩]
theorem c48:cq Tp Try.f48 zvQ=some A48:=by kernel_rfl
structure H48 (D:Den) (σ:Sig) (F:Nat):Prop where
 c77:C77 (D 77) F
 g77:σ 77=some (0,false)
 c78:C78 (D 78) F
 g78:σ 78=some (0,false)
abbrev R48 (r:Bool):(Nat→V)→Prop:=RR Tp [.tmp 4] 0 false (enc (r:Bool))
section
variable {r:Bool}
def Ji (F:Nat) (x1:GR) (x2:LI):Option Bool:=
 (XJ F x1 x2).bind fun r3=>
 bif r3 then
  (Yg F x2).bind fun r4=>
  some r4
 else
  some false
theorem t48 (H:H48 D σ F) (x1:GR) (x2:LI) (s:Nat→V) (hs:zB [(0,gV x1),(1,eL x2)] s) (h:Ji F x1 x2=some r):Run D σ (R48 r) (.run A48 []) s:=by
 unfold Ji at h
 obtain ⟨h0,h1⟩:=hs
 refine .seq (zC (yc ?_))
 refine ez [(0,_),(1,_),(2,_)] ⟨za h0 rfl mIE,za h1 rfl me,zg rfl⟩ ?_
 rintro s ⟨h0,h1,h2⟩
 refine xU (gV x1) (zx h0 rfl) h2 rfl (g0 (jb false) fun h4=>gq (.nsq (.seq (rg (g1 2 (gV x1) (rf (bG 2 x1)) fun h5=>gm h1 fun h6=>?_)))))
 obtain ⟨r3,Er3,h⟩:=zd h
 refine gcF [enc (x1:GR),eL x2] (zl h5 rfl (erase_enc (x1:GR)) (zl h6 rfl (erase_enc (x2:LI)) zJ)) (H.c77 _ _ _ Er3) H.g77 (gm (rf (jb r3)) fun h8=>yd h (fun hg4 h=>?_) (fun hg4 h=>?_))
 · refine zt (ct h8 hg4) (gm h1 fun h9=>?_)
   obtain ⟨r4,Er4,h⟩:=zd h
   refine zt (ct h8 hg4) (gcF [eL x2] (zl h9 rfl (erase_enc (x2:LI)) zJ) (H.c78 _ _ Er4) H.g78 (g2 8 10 (jb r4) (ct h8 hg4) (rf (jb r4)) fun h11=>gm h11 fun h4=>gq (.nsq (.ret ?_))))
   obtain rfl:=oi h
   exact rrA (zA h4) rfl
 iterate 2 refine yq (ct h8 hg4) ?_
 refine g2 8 10 (jb false) (ct h8 hg4) (rf (.tup [])) fun h11=>gm h11 fun h4=>gq (.nsq (.ret ?_))
 obtain rfl:=oi h
 exact rrA (zA h4) rfl
end
def e48 (F:Nat):Ent:=ent 48 (fun (x:(GR×LI×Unit))=>Ji F x.1 x.2.1) (fun (r:Bool)=>(enc (r:Bool))) 0 false []
abbrev C48 (D:List V→Option V) (F:Nat):Prop:=∀ (x0:GR) (x1:LI) r,Ji F x0 x1=some r→D [enc x0,enc x1]=some (enc (r:Bool))
theorem p48 {F:Nat}:C48 (e48 F).den F:=fun x0 x1 _ h=>zZ (x0,x1,()) h
theorem o48 (hF:zH Tp D σ) (H:H48 D σ F):(e48 F).Ok Tp:=okZ (f:=48) Try.func48 fun ⟨x0,x1,_⟩ y hy=>cR hF Try.func48 c48 (t48 H x0 x1 _ ⟨rfl,rfl⟩ hy)
def zrp:AC:=(.seq (rr [jv 4 (.load (.ag [.s,.p]) (.t 1)),jx 5 (.call (jf 29) [.t 4]),jm 6 0,jx 7 (.call (jf 47) [.t 5,.t 6]),jk 8 7,jv 9 (.bin .neq (.t 8) (jn 1)),jm 3 9]) .ret)
def A50:AC:=(.seq (rr [jv 3 (.mov kf)]) zrp)
def zxt:List An:=[]
theorem c50:cq Tp Try.f50 zxt=some A50:=by kernel_rfl
structure H50 (D:Den) (σ:Sig) (F:Nat):Prop where
 c29:C29 (D 29) F
 g29:σ 29=some (0,false)
 c47:C47 (D 47) F
 g47:σ 47=some (0,false)
abbrev R50 (r:Bool):(Nat→V)→Prop:=RR Tp [.tmp 3] 0 false (enc (r:Bool))
section
variable {r:Bool}
def w9 (F:Nat) (x1:Int) (rf_2:(Rf GR)):Option Bool:=
 (ZX F rf_2.v).bind fun r3=>
 (uF F r3 x1).bind fun r4=>
 some ((r4.length:Int) != 1)
theorem t50 (H:H50 D σ F) (x1:Int) (rf_2:(Rf GR)) (s:Nat→V) (hs:zB [(0,ji x1),(1,.ref .sh 0 [] (gV rf_2.v))] s) (h:w9 F x1 rf_2=some r):Run D σ (R50 r) (.run A50 []) s:=by
 unfold w9 at h
 obtain ⟨h0,h1⟩:=hs
 refine .seq (rg (g0 (jb false) fun h3=>gq (.nsq (.seq (rg (g1 1 (gV rf_2.v) h1 fun h4=>?_))))))
 obtain ⟨r3,Er3,h⟩:=zd h
 refine gcF [enc (rf_2.v:GR)] (zl h4 rfl (erase_enc (rf_2.v:GR)) zJ) (H.c29 _ _ Er3) H.g29 (gm h0 fun h6=>?_)
 obtain ⟨r4,Er4,h⟩:=zd h
 refine gcF [enc (r3:(S1 LI)),enc (x1:Int)] (zl (v:=.agg [eL r3.a]) rfl rfl (erase_enc (r3:(S1 LI))) (zl h6 rfl rfl zJ)) (H.c47 _ _ _ Er4) H.g47 (gl r4 rfl fun h8=>g1 8 (jb ((r4.length:Int) != 1)) h8 fun h9=>gm h9 fun h3=>gq (.nsq (.ret ?_)))
 obtain rfl:=oi h
 exact rrA (zA h3) rfl
end
def e50 (F:Nat):Ent:=ent 50 (fun (x:(Int×(Rf GR)×Unit))=>w9 F x.1 x.2.1) (fun (r:Bool)=>(enc (r:Bool))) 0 false []
abbrev C50 (D:List V→Option V) (F:Nat):Prop:=∀ (x0:Int) (x1:(Rf GR)) r,w9 F x0 x1=some r→D [enc x0,Arg.arg x1]=some (enc (r:Bool))
theorem p50 {F:Nat}:C50 (e50 F).den F:=fun x0 x1 _ h=>zZ (x0,x1,()) h
theorem o50 (hF:zH Tp D σ) (H:H50 D σ F):(e50 F).Ok Tp:=okZ (f:=50) Try.func50 fun ⟨x0,x1,_⟩ y hy=>cR hF Try.func50 c50 (t50 H x0 x1 _ ⟨rfl,rfl⟩ hy)
def zk3:AC:=(.cond (.t 16) (.seq (rr [jm 17 5,jm 4 17]) .ret) .skip)
def zlh:AC:=(.seq (rr [jm 11 1,jm 12 0,jm 13 5,jv 14 (.idx (.t 12) (.t 13) 1),jl 15 14,jx 16 (.call (.t 11) [.t 15])]) zk3)
def zlO:AC:=(rr [jv 18 (.bin .add (.t 8) (jn 1)),jm 8 18])
def zkp:AC:=(.seq (.block 1 (.seq (rr [jm 10 8,jm 5 10]) zlh)) zlO)
def zkE:AC:=(.seq (.cond (.t 9) .skip (.exit 0)) zkp)
def za5:AC:=(.seq (rr [jv 9 (.bin .lss (.t 8) (.t 7))]) zkE)
def zfi:AC:=(.seq (rr [jv 4 (.mov (jn (-1)))]) .ret)
def zll:AC:=(.block 0 (.loop za5))
def zkT:AC:=(.seq (.seq (rr [jm 6 0,jk 7 6,jv 8 (.mov (jn 0))]) zll) zfi)
def zmn:AC:=(.seq (rr [jv 4 (.mov (jn 0))]) zkT)
def zm3:List An:=[]
theorem c32s1:cq Tp Try.f32 zm3=some zmn:=by kernel_rfl
structure zh4 (D:Den) (σ:Sig) (F:Nat):Prop where
 c50:C50 (D 50) F
 g50:σ 50=some (0,false)
abbrev zmK (r:Int):(Nat→V)→Prop:=RR Tp [.tmp 4] 0 false (enc (r:Int))
section
variable {r:Int}
def yu (F:Nat) (x1:LI) (x2:(Cl 50 Unit ((Rf GR)×Unit))) :Nat→Int→Option Int
 | 0,_=>none
 | k + 1,x5=>
   bif decide (x5 < (x1.length:Int)) then
    (idx x1 x5).bind fun v8=>
    (w9 F v8 x2.env.1).bind fun r9=>
    bif r9 then
     some x5
    else
     (yu F x1 x2 k) (w64 (x5 + 1))
   else
    some (-1)
theorem zd1 (H:zh4 D σ F) (x1:LI) (x2:(Cl 50 Unit ((Rf GR)×Unit))) :∀ (k:Nat) (x5:Int) (s:Nat→V),zB [(0,eL x1),(1,.fn 50 [] [.ref .sh 0 [] (gV x2.env.1.v)]),(4,ji 0),(7,ji (x1.length:Int)),(8,ji x5)] s→yu F x1 x2 k x5=some r→Run D σ (zmK r) (.run za5 [.lp za5,.bk 0,.sq zfi]) s:=by
 intro k
 induction k with
 | zero=>intro x5 s _ h;exact nm h
 | succ k ih=>
   intro x5 s hs h
   rw [yu] at h
   obtain ⟨h0,h1,h4,h7,h8⟩:=hs
   refine .seq (rg (g2 8 7 (jb (decide (x5 < (x1.length:Int)))) h8 h7 fun h9=>gq (.nsq (.seq (zu h9 h (fun h=>?_) (fun h=>?_))))))
   · refine .skip (.nsq (.seq (.block (.seq (rg (gm h8 fun h10=>gm h10 fun h5=>gq (.nsq (.seq (rg (gm h1 fun h11=>gm h0 fun h12=>gm h5 fun h13=>?_))))))))))
     obtain ⟨v8,Ev8,h⟩:=zd h
     refine gv (.ref .sh 0 [] (ji v8)) (yG (t:=.sh) (lo:=0) (xs:=x1) h12 h13 Ev8 rfl rfl) fun h14=>g1 14 (ji v8) h14 fun h15=>?_
     obtain ⟨r9,Er9,h⟩:=zd h
     refine MV (m:=0) (al:=false) (r:=enc (r9:Bool)) (fs:=[]) (env:=[.ref .sh 0 [] (gV x2.env.1.v)]) (us:=[]) (ws:=[Arg.arg (x2.env.1:(Rf GR))]) h11 xD (vg (Xg (erase_enc (x2.env.1.v:GR))) xD) rfl [enc (v8:Int)] (zl h15 rfl rfl zJ) (H.c50 _ _ _ Er9) H.g50 rfl rfl rfl rfl (gq (.nsq (zu rfl h (fun h=>?_) (fun h=>?_))))
     · refine .seq (rg (gm h5 fun h17=>gm h17 fun h4=>gq (.nsq (.ret ?_))))
       obtain rfl:=oi h
       exact rrA (zA h4) rfl
     refine .skip (.nbk (.nsq (rg (g1 8 (ji (w64 (x5 + 1))) h8 fun h18=>gm h18 fun h8=>gq (.nlp ?_)))))
     exact ih (w64 (x5 + 1)) _ ⟨h0,h1,h4,h7,h8⟩ h
   refine .exit (.esq (.elp (.ebk (.nsq (.seq (rg (g0 (ji (-1)) fun h4=>gq (.nsq (.ret ?_)))))))))
   obtain rfl:=oi h
   exact rrA (zA h4) rfl
def yO (F:Nat) (x1:LI) (x2:(Cl 50 Unit ((Rf GR)×Unit))):Option Int:=
 yu F x1 x2 F 0
theorem zul (H:zh4 D σ F) (x1:LI) (x2:(Cl 50 Unit ((Rf GR)×Unit))) (s:Nat→V) (hs:zB [(0,eL x1),(1,.fn 50 [] [.ref .sh 0 [] (gV x2.env.1.v)])] s) (h:yO F x1 x2=some r):Run D σ (zmK r) (.run zmn []) s:=by
 unfold yO at h
 obtain ⟨h0,h1⟩:=hs
 refine .seq (rg (g0 (ji 0) fun h4=>gq (.nsq (.seq (.seq (rg (gm h0 fun h6=>gl x1 h6 fun h7=>g0 (ji 0) fun h8=>gq (.nsq (.block (.loop ?_))))))))))
 exact zd1 H x1 x2 F 0 _ ⟨h0,h1,h4,h7,h8⟩ h
end
def zjK (F:Nat):Ent:=ent 32 (fun (x:(LI×(Cl 50 Unit ((Rf GR)×Unit))×Unit))=>yO F x.1 x.2.1) (fun (r:Int)=>(enc (r:Int))) 0 false [(1,50)]
abbrev zmL (D:List V→Option V) (F:Nat):Prop:=∀ (x0:LI) (x1:(Cl 50 Unit ((Rf GR)×Unit))) r,yO F x0 x1=some r→D [enc x0,Arg.arg x1]=some (enc (r:Int))
theorem zu9 {F:Nat}:zmL (zjK F).den F:=fun x0 x1 _ h=>zZ (x0,x1,()) h
theorem zuC (hF:zH Tp D σ) (H:zh4 D σ F):(zjK F).Ok Tp:=okZ (f:=32) Try.func32 fun ⟨x0,x1,_⟩ y hy=>cR hF Try.func32 c32s1 (zul H x0 x1 _ ⟨rfl,rfl⟩ hy)
def zlK:AC:=(.seq (rr [jm 5 0,jm 6 1,jx 7 (.call (jf 32) [.t 5,.t 6]),jv 8 (.bin .geq (.t 7) (jn 0)),jm 4 8]) .ret)
def zmx:AC:=(.seq (rr [jv 4 (.mov kf)]) zlK)
def zpv:List An:=[]
theorem c49s1:cq Tp Try.f49 zpv=some zmx:=by kernel_rfl
structure zl4 (D:Den) (σ:Sig) (F:Nat):Prop where
 c32s1:zmL (D 32) F
 g32s1:σ 32=some (0,false)
abbrev zqy (r:Bool):(Nat→V)→Prop:=RR Tp [.tmp 4] 0 false (enc (r:Bool))
section
variable {r:Bool}
def yH (F:Nat) (x1:LI) (x2:(Cl 50 Unit ((Rf GR)×Unit))):Option Bool:=
 (yO F x1 x2).bind fun r3=>
 some (decide (r3≥0))
theorem zqo (H:zl4 D σ F) (x1:LI) (x2:(Cl 50 Unit ((Rf GR)×Unit))) (s:Nat→V) (hs:zB [(0,eL x1),(1,.fn 50 [] [.ref .sh 0 [] (gV x2.env.1.v)])] s) (h:yH F x1 x2=some r):Run D σ (zqy r) (.run zmx []) s:=by
 unfold yH at h
 obtain ⟨h0,h1⟩:=hs
 refine .seq (rg (g0 (jb false) fun h4=>gq (.nsq (.seq (rg (gm h0 fun h5=>gm h1 fun h6=>?_))))))
 obtain ⟨r3,Er3,h⟩:=zd h
 refine gcF [eL x1,Arg.arg (x2:(Cl 50 Unit ((Rf GR)×Unit)))] (zl h5 rfl (erase_enc (x1:LI)) (zl h6 rfl (UZ xD (vg (Xg (erase_enc (x2.env.1.v:GR))) xD)) zJ)) (H.c32s1 _ _ _ Er3) H.g32s1 (g1 7 (jb (decide (r3≥0))) (rf (ji r3)) fun h8=>gm h8 fun h4=>gq (.nsq (.ret ?_)))
 obtain rfl:=oi h
 exact rrA (zA h4) rfl
end
def zio (F:Nat):Ent:=ent 49 (fun (x:(LI×(Cl 50 Unit ((Rf GR)×Unit))×Unit))=>yH F x.1 x.2.1) (fun (r:Bool)=>(enc (r:Bool))) 0 false [(1,50)]
abbrev zmh (D:List V→Option V) (F:Nat):Prop:=∀ (x0:LI) (x1:(Cl 50 Unit ((Rf GR)×Unit))) r,yH F x0 x1=some r→D [enc x0,Arg.arg x1]=some (enc (r:Bool))
theorem zuX {F:Nat}:zmh (zio F).den F:=fun x0 x1 _ h=>zZ (x0,x1,()) h
theorem zrz (hF:zH Tp D σ) (H:zl4 D σ F):(zio F).Ok Tp:=okZ (f:=49) Try.func49 fun ⟨x0,x1,_⟩ y hy=>cR hF Try.func49 c49s1 (zqo H x0 x1 _ ⟨rfl,rfl⟩ hy)
def zqQ:AC:=(.seq (rr [jv 4 (.load .p (.t 1)),jv 5 (.idxA (.t 2) (jn 0) 2 1),jl 6 5,jv 7 (.idx (.t 4) (.t 6) 1),jl 8 7,jv 9 (.load .p (.t 1)),jv 10 (.idxA (.t 2) (jn 1) 2 1),jl 11 10,jv 12 (.idx (.t 9) (.t 11) 1),jl 13 12,jv 14 (.bin .and (.t 8) (.t 13)),jv 15 (.bin .eql (.t 14) (jn 0)),jm 3 15]) .ret)
def A52:AC:=(.seq (.reg [.clr [2]] [jx 2 (.box (.t 0)),jv 3 (.mov kf)] []) zqQ)
def zw2:List An:=[⟨0,[.clr [2]],[],[],[]⟩]
theorem c52:cq Tp Try.f52 zw2=some A52:=by kernel_rfl
structure H52 (D:Den) (σ:Sig) (F:Nat):Prop where
 mk ::
abbrev R52 (r:Bool):(Nat→V)→Prop:=RR Tp [.tmp 3] 0 false (enc (r:Bool))
section
variable {r:Bool}
def vc (F:Nat) (v1:(Int×Int)) (rf_2:(Rf LI)):Option Bool:=
 (idx rf_2.v v1.1).bind fun v3=>
 (idx rf_2.v v1.2).bind fun v4=>
 some ((yI .i64 v3 v4) == 0)
theorem t52 (H:H52 D σ F) (v1:(Int×Int)) (rf_2:(Rf LI)) (s:Nat→V) (hs:zB [(0,.agg [ji v1.1,ji v1.2]),(1,.ref .sh 0 [] (eL rf_2.v))] s) (h:vc F v1 rf_2=some r):Run D σ (R52 r) (.run A52 []) s:=by
 unfold vc at h
 obtain ⟨h0,h1⟩:=hs
 refine .seq (zC (yc ?_))
 refine ez [(0,_),(1,_),(2,_)] ⟨za h0 rfl mII,za h1 rfl rfl,zg rfl⟩ ?_
 rintro s ⟨h0,h1,h2⟩
 refine xU (.agg [ji v1.1,ji v1.2]) (zx h0 rfl) h2 rfl (g0 (jb false) fun h3=>gq (.nsq (.seq (rg (g1 1 (eL rf_2.v) h1 fun h4=>g1 2 (.ref (.bx 2) 0 [0] (ji v1.1)) (rf (.ref (.bx 2) 0 [] (.agg [ji v1.1,ji v1.2]))) fun h5=>g1 5 (ji v1.1) h5 fun h6=>?_)))))
 obtain ⟨v3,Ev3,h⟩:=zd h
 refine gv (.ref .sh 0 [] (ji v3)) (yG (t:=.sh) (lo:=0) (xs:=rf_2.v) h4 h6 Ev3 rfl rfl) fun h7=>g1 7 (ji v3) h7 fun h8=>g1 1 (eL rf_2.v) h1 fun h9=>g1 2 (.ref (.bx 2) 0 [1] (ji v1.2)) (rf (.ref (.bx 2) 0 [] (.agg [ji v1.1,ji v1.2]))) fun h10=>g1 10 (ji v1.2) h10 fun h11=>?_
 obtain ⟨v4,Ev4,h⟩:=zd h
 refine gv (.ref .sh 0 [] (ji v4)) (yG (t:=.sh) (lo:=0) (xs:=rf_2.v) h9 h11 Ev4 rfl rfl) fun h12=>g1 12 (ji v4) h12 fun h13=>g2 8 13 (ji (yI .i64 v3 v4)) h8 h13 fun h14=>g1 14 (jb ((yI .i64 v3 v4) == 0)) h14 fun h15=>gm h15 fun h3=>gq (.nsq (.ret ?_))
 obtain rfl:=oi h
 exact rrA (zA h3) rfl
end
def e52 (F:Nat):Ent:=ent 52 (fun (x:((Int×Int)×(Rf LI)×Unit))=>vc F x.1 x.2.1) (fun (r:Bool)=>(enc (r:Bool))) 0 false []
abbrev C52 (D:List V→Option V) (F:Nat):Prop:=∀ (x0:(Int×Int)) (x1:(Rf LI)) r,vc F x0 x1=some r→D [enc x0,Arg.arg x1]=some (enc (r:Bool))
theorem p52 {F:Nat}:C52 (e52 F).den F:=fun x0 x1 _ h=>zZ (x0,x1,()) h
theorem o52 (hF:zH Tp D σ) (H:H52 D σ F):(e52 F).Ok Tp:=okZ (f:=52) Try.func52 fun ⟨x0,x1,_⟩ y hy=>cR hF Try.func52 c52 (t52 H x0 x1 _ ⟨rfl,rfl⟩ hy)
def zld:AC:=(.cond (.t 16) (.seq (rr [jm 17 5,jm 4 17]) .ret) .skip)
def zlL:AC:=(.seq (rr [jm 11 1,jm 12 0,jm 13 5,jv 14 (.idx (.t 12) (.t 13) 2),jv 15 (.load (.ag [.s,.s]) (.t 14)),jx 16 (.call (.t 11) [.t 15])]) zld)
def zlx:AC:=(rr [jv 18 (.bin .add (.t 8) (jn 1)),jm 8 18])
def zlt:AC:=(.seq (.block 1 (.seq (rr [jm 10 8,jm 5 10]) zlL)) zlx)
def zk1:AC:=(.seq (.cond (.t 9) .skip (.exit 0)) zlt)
def zbx:AC:=(.seq (rr [jv 9 (.bin .lss (.t 8) (.t 7))]) zk1)
def zeX:AC:=(.seq (rr [jv 4 (.mov (jn (-1)))]) .ret)
def zk9:AC:=(.block 0 (.loop zbx))
def zkm:AC:=(.seq (.seq (rr [jm 6 0,jk 7 6,jv 8 (.mov (jn 0))]) zk9) zeX)
def zmj:AC:=(.seq (rr [jv 4 (.mov (jn 0))]) zkm)
def zoV:List An:=[]
theorem c79s1:cq Tp Try.f79 zoV=some zmj:=by kernel_rfl
structure ziW (D:Den) (σ:Sig) (F:Nat):Prop where
 c52:C52 (D 52) F
 g52:σ 52=some (0,false)
abbrev zmQ (r:Int):(Nat→V)→Prop:=RR Tp [.tmp 4] 0 false (enc (r:Int))
section
variable {r:Int}
def z7 (F:Nat) (x1:TP) (x2:(Cl 52 Unit ((Rf LI)×Unit))) :Nat→Int→Option Int
 | 0,_=>none
 | k + 1,x5=>
   bif decide (x5 < (x1.length:Int)) then
    (idx x1 x5).bind fun v8=>
    (vc F v8 x2.env.1).bind fun r9=>
    bif r9 then
     some x5
    else
     (z7 F x1 x2 k) (w64 (x5 + 1))
   else
    some (-1)
theorem zec (H:ziW D σ F) (x1:TP) (x2:(Cl 52 Unit ((Rf LI)×Unit))) :∀ (k:Nat) (x5:Int) (s:Nat→V),zB [(0,eP x1),(1,.fn 52 [] [.ref .sh 0 [] (eL x2.env.1.v)]),(4,ji 0),(7,ji (x1.length:Int)),(8,ji x5)] s→z7 F x1 x2 k x5=some r→Run D σ (zmQ r) (.run zbx [.lp zbx,.bk 0,.sq zeX]) s:=by
 intro k
 induction k with
 | zero=>intro x5 s _ h;exact nm h
 | succ k ih=>
   intro x5 s hs h
   rw [z7] at h
   obtain ⟨h0,h1,h4,h7,h8⟩:=hs
   refine .seq (rg (g2 8 7 (jb (decide (x5 < (x1.length:Int)))) h8 h7 fun h9=>gq (.nsq (.seq (zu h9 h (fun h=>?_) (fun h=>?_))))))
   · refine .skip (.nsq (.seq (.block (.seq (rg (gm h8 fun h10=>gm h10 fun h5=>gq (.nsq (.seq (rg (gm h1 fun h11=>gm h0 fun h12=>gm h5 fun h13=>?_))))))))))
     obtain ⟨v8,Ev8,h⟩:=zd h
     refine gv (.ref .sh 0 [] (.agg [ji v8.1,ji v8.2])) (yG (t:=.sh) (lo:=0) (xs:=x1) h12 h13 Ev8 rfl rfl) fun h14=>g1 14 (.agg [ji v8.1,ji v8.2]) h14 fun h15=>?_
     obtain ⟨r9,Er9,h⟩:=zd h
     refine MV (m:=0) (al:=false) (r:=enc (r9:Bool)) (fs:=[]) (env:=[.ref .sh 0 [] (eL x2.env.1.v)]) (us:=[]) (ws:=[Arg.arg (x2.env.1:(Rf LI))]) h11 xD (vg (Xg (erase_enc (x2.env.1.v:LI))) xD) rfl [enc (v8:(Int×Int))] (zl h15 rfl (erase_enc (v8:(Int×Int))) zJ) (H.c52 _ _ _ Er9) H.g52 rfl rfl rfl rfl (gq (.nsq (zu rfl h (fun h=>?_) (fun h=>?_))))
     · refine .seq (rg (gm h5 fun h17=>gm h17 fun h4=>gq (.nsq (.ret ?_))))
       obtain rfl:=oi h
       exact rrA (zA h4) rfl
     refine .skip (.nbk (.nsq (rg (g1 8 (ji (w64 (x5 + 1))) h8 fun h18=>gm h18 fun h8=>gq (.nlp ?_)))))
     exact ih (w64 (x5 + 1)) _ ⟨h0,h1,h4,h7,h8⟩ h
   refine .exit (.esq (.elp (.ebk (.nsq (.seq (rg (g0 (ji (-1)) fun h4=>gq (.nsq (.ret ?_)))))))))
   obtain rfl:=oi h
   exact rrA (zA h4) rfl
def yk (F:Nat) (x1:TP) (x2:(Cl 52 Unit ((Rf LI)×Unit))):Option Int:=
 z7 F x1 x2 F 0
theorem zrX (H:ziW D σ F) (x1:TP) (x2:(Cl 52 Unit ((Rf LI)×Unit))) (s:Nat→V) (hs:zB [(0,eP x1),(1,.fn 52 [] [.ref .sh 0 [] (eL x2.env.1.v)])] s) (h:yk F x1 x2=some r):Run D σ (zmQ r) (.run zmj []) s:=by
 unfold yk at h
 obtain ⟨h0,h1⟩:=hs
 refine .seq (rg (g0 (ji 0) fun h4=>gq (.nsq (.seq (.seq (rg (gm h0 fun h6=>gl x1 h6 fun h7=>g0 (ji 0) fun h8=>gq (.nsq (.block (.loop ?_))))))))))
 exact zec H x1 x2 F 0 _ ⟨h0,h1,h4,h7,h8⟩ h
end
def zis (F:Nat):Ent:=ent 79 (fun (x:(TP×(Cl 52 Unit ((Rf LI)×Unit))×Unit))=>yk F x.1 x.2.1) (fun (r:Int)=>(enc (r:Int))) 0 false [(1,52)]
abbrev zl9 (D:List V→Option V) (F:Nat):Prop:=∀ (x0:TP) (x1:(Cl 52 Unit ((Rf LI)×Unit))) r,yk F x0 x1=some r→D [enc x0,Arg.arg x1]=some (enc (r:Int))
theorem zvi {F:Nat}:zl9 (zis F).den F:=fun x0 x1 _ h=>zZ (x0,x1,()) h
theorem ztQ (hF:zH Tp D σ) (H:ziW D σ F):(zis F).Ok Tp:=okZ (f:=79) Try.func79 fun ⟨x0,x1,_⟩ y hy=>cR hF Try.func79 c79s1 (zrX H x0 x1 _ ⟨rfl,rfl⟩ hy)
def zky:AC:=(.seq (rr [jm 5 0,jm 6 1,jx 7 (.call (jf 79) [.t 5,.t 6]),jv 8 (.bin .geq (.t 7) (jn 0)),jm 4 8]) .ret)
def zmi:AC:=(.seq (rr [jv 4 (.mov kf)]) zky)
def zog:List An:=[]
theorem c51s1:cq Tp Try.f51 zog=some zmi:=by kernel_rfl
structure zlW (D:Den) (σ:Sig) (F:Nat):Prop where
 c79s1:zl9 (D 79) F
 g79s1:σ 79=some (0,false)
abbrev zuo (r:Bool):(Nat→V)→Prop:=RR Tp [.tmp 4] 0 false (enc (r:Bool))
section
variable {r:Bool}
def yi (F:Nat) (x1:TP) (x2:(Cl 52 Unit ((Rf LI)×Unit))):Option Bool:=
 (yk F x1 x2).bind fun r3=>
 some (decide (r3≥0))
theorem zuW (H:zlW D σ F) (x1:TP) (x2:(Cl 52 Unit ((Rf LI)×Unit))) (s:Nat→V) (hs:zB [(0,eP x1),(1,.fn 52 [] [.ref .sh 0 [] (eL x2.env.1.v)])] s) (h:yi F x1 x2=some r):Run D σ (zuo r) (.run zmi []) s:=by
 unfold yi at h
 obtain ⟨h0,h1⟩:=hs
 refine .seq (rg (g0 (jb false) fun h4=>gq (.nsq (.seq (rg (gm h0 fun h5=>gm h1 fun h6=>?_))))))
 obtain ⟨r3,Er3,h⟩:=zd h
 refine gcF [eP x1,Arg.arg (x2:(Cl 52 Unit ((Rf LI)×Unit)))] (zl h5 rfl (erase_enc (x1:TP)) (zl h6 rfl (UZ xD (vg (Xg (erase_enc (x2.env.1.v:LI))) xD)) zJ)) (H.c79s1 _ _ _ Er3) H.g79s1 (g1 7 (jb (decide (r3≥0))) (rf (ji r3)) fun h8=>gm h8 fun h4=>gq (.nsq (.ret ?_)))
 obtain rfl:=oi h
 exact rrA (zA h4) rfl
end
def ziX (F:Nat):Ent:=ent 51 (fun (x:(TP×(Cl 52 Unit ((Rf LI)×Unit))×Unit))=>yi F x.1 x.2.1) (fun (r:Bool)=>(enc (r:Bool))) 0 false [(1,52)]
abbrev zlV (D:List V→Option V) (F:Nat):Prop:=∀ (x0:TP) (x1:(Cl 52 Unit ((Rf LI)×Unit))) r,yi F x0 x1=some r→D [enc x0,Arg.arg x1]=some (enc (r:Bool))
theorem zsm {F:Nat}:zlV (ziX F).den F:=fun x0 x1 _ h=>zZ (x0,x1,()) h
theorem zpT (hF:zH Tp D σ) (H:zlW D σ F):(ziX F).Ok Tp:=okZ (f:=51) Try.func51 fun ⟨x0,x1,_⟩ y hy=>cR hF Try.func51 c51s1 (zuW H x0 x1 _ ⟨rfl,rfl⟩ hy)
end Go.Zq
