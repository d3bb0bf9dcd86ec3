import Derived.Test.YtgmiekggdgmhkaaGreatDoorMN13
import Derived.Test.YtgmiekggdgmhkaaGreatDoorMN5
section
namespace Go.Proofs.YtgmiekggdgmhkaaGreatDoor.Q
open Go.RowKit Go.Proofs.YtgmiekggdgmhkaaGreatDoorW.PrintWords Go.Proofs.YtgmiekggdgmhkaaGreatDoorW.PrintLast Go.Proofs.YtgmiekggdgmhkaaGreatDoorW.PrintMore
attribute [local go_sem] max2_int min2_int max_two min_two max_three min_three max_four min_four
set_option linter.unusedVariables false
set_option linter.unusedSimpArgs false
mutual
def mummerref04_Symbols.l0:Nat→List (S40)→List ByteArray→Int→Option (List ByteArray×Int)
 |0,_,_,_=>none
 |k+1,x0,x6,x7=>if x7<(x0.length:Int) then (if 0≤x7 then (if ((rd_T40 x0 x7).f0)=3 then (mummerref04_Symbols.l1 k x0 x6 x7 (x6.length:Int)) else (mummerref04_Symbols.l0 k x0 x6 (wrap64 (x7+1)))) else (none)) else (some (x6,0))
def mummerref04_Symbols.l1:Nat→List (S40)→List ByteArray→Int→Int→Option (List ByteArray×Int)
 |0,_,_,_,_=>none
 |k+1,x0,x6,x7,x8=>if x8>0 then (if 0≤x7 then (if x7<(x0.length:Int) then (if 0≤(wrap64 (x8-1)) then (if (wrap64 (x8-1))<(x6.length:Int) then (if (Op.bytesLess (((rd_T40 x0 x7).f3).toList) ((rdOf ByteArray.empty x6 (wrap64 (x8-1))).toList))=true then (mummerref04_Symbols.l1 k x0 x6 x7 (wrap64 (x8-1))) else (if (rdOf ByteArray.empty x6 (wrap64 (x8-1))).toList=((rd_T40 x0 x7).f3).toList then (mummerref04_Symbols.l0 k x0 x6 (wrap64 (x7+1))) else ((some (([(rd_T40 x0 x7).f3]:List ByteArray):List ByteArray)).bind fun y254=>(if 0≤x8 then (if x8≤(x6.length:Int) then ((some (x6.drop (x8:Int).toNat:List ByteArray)).bind fun y257=>(if y254.length+y257.length<8796093022208 then ((some (y254++y257:List ByteArray)).bind fun y261=>((some (([]:List ByteArray):List ByteArray)).bind fun y264=>((some (x6.take (x8:Int).toNat:List ByteArray)).bind fun y267=>(if y264.length+y267.length<8796093022208 then ((some (y264++y267:List ByteArray)).bind fun y271=>(if y271.length+y261.length<8796093022208 then (mummerref04_Symbols.l0 k x0 (y271++y261) (wrap64 (x7+1))) else (none))) else (none))))) else (none))) else (none)) else (none))))) else (none)) else (none)) else (none)) else (none)) else (if 0≤x7 then (if x7<(x0.length:Int) then ((some (([(rd_T40 x0 x7).f3]:List ByteArray):List ByteArray)).bind fun y278=>(if 0≤x8 then (if x8≤(x6.length:Int) then ((some (x6.drop (x8:Int).toNat:List ByteArray)).bind fun y281=>(if y278.length+y281.length<8796093022208 then ((some (y278++y281:List ByteArray)).bind fun y285=>((some (([]:List ByteArray):List ByteArray)).bind fun y288=>((some (x6.take (x8:Int).toNat:List ByteArray)).bind fun y291=>(if y288.length+y291.length<8796093022208 then ((some (y288++y291:List ByteArray)).bind fun y295=>(if y295.length+y285.length<8796093022208 then (mummerref04_Symbols.l0 k x0 (y295++y285) (wrap64 (x7+1))) else (none))) else (none))))) else (none))) else (none)) else (none))) else (none)) else (none))
end
def mummerref04_Symbols.f (k:Nat) (l0:List (S40)):Option (List ByteArray×Int):=(mummerref04_Check.f k l0).bind fun bt246=>(if bt246.2=0 then (mummerref04_Symbols.l0 k l0 ([]:List ByteArray) 0) else (some (([]:List ByteArray),bt246.2)))
def mummerref04_Symbols.T10:Bool×List (List Nat×List Nat):=(true,[([],[]),([0],[0]),([1],[1]),([2],[2]),([2],[2]),([3,4,2],[2,3,4]),([5,2],[2,5]),([6,2],[2,6]),([2],[2]),([2],[2]),([9,2],[2,9]),([8,10,2],[2,8,10]),([11,2],[2,11]),([7,12,2],[2,7,12]),([2,13],[2,13])])
def mummerref04_Symbols.B10:List Nat:=[0,1,3,7,7,31,63,127,7,7,519,1799,3847,8191,16383]
theorem mummerref04_Symbols.tab10:rtab .any (opsOf Tryz.f10 10)=mummerref04_Symbols.T10:=by kernel_rfl
theorem mummerref04_Symbols.bits10:waitsOk mummerref04_Symbols.T10.2 mummerref04_Symbols.B10=true:=by kernel_rfl
def mummerref04_Symbols.T12:Bool×List (List Nat×List Nat):=(true,[([],[]),([0],[0]),([1],[1]),([2],[2]),([2],[2]),([4,2],[2,4]),([3,5,2],[2,3,5]),([6,2],[2,6]),([2],[2]),([2],[2]),([8,9,2],[2,8,9]),([10,2],[2,10]),([11,2],[2,11]),([7,12,2],[2,7,12]),([2,13],[2,13])])
def mummerref04_Symbols.B12:List Nat:=[0,1,3,7,7,23,63,127,7,7,775,1799,3847,8191,16383]
theorem mummerref04_Symbols.tab12:rtab .any (opsOf Tryz.f10 12)=mummerref04_Symbols.T12:=by kernel_rfl
theorem mummerref04_Symbols.bits12:waitsOk mummerref04_Symbols.T12.2 mummerref04_Symbols.B12=true:=by kernel_rfl
def mummerref04_Symbols.T13:Bool×List (List Nat×List Nat):=(true,[([],[]),([],[]),([0,1],[0,1]),([2],[2]),([3],[3]),([4],[4]),([],[]),([],[]),([6,7],[6,7]),([5,8],[5,8]),([9,9,0,1,2,3,4,5,6,7,8,9],[9])])
def mummerref04_Symbols.B13:List Nat:=[0,0,3,7,15,31,0,0,192,511,1023]
theorem mummerref04_Symbols.tab13:rtab .any (opsOf Tryz.f10 13)=mummerref04_Symbols.T13:=by kernel_rfl
theorem mummerref04_Symbols.bits13:waitsOk mummerref04_Symbols.T13.2 mummerref04_Symbols.B13=true:=by kernel_rfl
set_option maxHeartbeats 8000000 in
set_option maxRecDepth 100000 in
theorem mummerref04_Symbols.calls (k:Nat) (A0:Option Addr) (c0:Nat) (l0:List (S40)) (r1:List ByteArray) (r2:Int) (w:World) (hr0:Kd.C k40 w A0 l0.length l0) (hc0:l0.length≤c0) (h:mummerref04_Symbols.f k l0=some (r1,r2)):
 Calls Tryz.prog 10 #[.slice A0 l0.length c0] w fun e w'=> ∃v0_:Value,e= .returned (.tuple #[v0_,.int .i64 r2])∧Kd.R Kd.string 9 w' w.heap.size (fun _=>True) v0_ r1∧Below w.heap.size w w':=by
 have HR0:=Aside0.mk hr0;have HC0:=Aside0.mk hc0;clear hr0 hc0;have HB:=Aside0.mk (Below.refl w.heap.size w);have H:((mummerref04_Check.f k l0).bind fun bt246=>(if bt246.2=0 then (mummerref04_Symbols.l0 k l0 ([]:List ByteArray) 0) else (some (([]:List ByteArray),bt246.2))))=some (r1,r2):=h;clear h;replace H:=Option.bind_eq_some_iff.mp H;obtain ⟨⟨t246,t247⟩,A20,H⟩:=H;replace H:(if t247=0 then (mummerref04_Symbols.l0 k l0 ([]:List ByteArray) 0) else (some (([]:List ByteArray),t247)))=some (r1,r2):=H;have A2:=Aside0.mk A20;clear A20;by_cases c3:t247=0
 · rw [if_pos c3] at H;have c3b0:(t247==0)=true:=beq_iff_eq.mpr c3;have c3b1:(t247 != 0)=false:=bne_eq_false_iff_eq.mpr c3;clear c3;have H':=Aside0.mk H;clear H;go_enter Tryz.func10,Tryz.ntmps10
   go_wp2_with (first|((with_reducible refine gate_callee (f:=25) rfl ?_);refine goesL_ (some 12) rfl rfl Tryz.func25 (by kernel_rfl) rfl #[.slice A0 l0.length c0] rfl (by (try simp only [List.map_toArray,List.map_cons,List.map_nil]);first|done|rfl|(simp only [List.length_drop,List.length_take];rfl)) ?_;(with_reducible refine (mummerref04_Check.calls k _ _ l0 t246 t247 _ ?side1 ?side2 A2.out).mono ?_);(case side1=>repeat (first|exact HR0.out|(with_reducible refine Kd.C_alloc ?_ _)|(with_reducible refine Kd.C_drewN ?_ _)|(with_reducible refine Kd.C_drew ?_)));(case side2=>exact HC0.out);rintro e w4 ⟨rfl,hb⟩;refine ⟨_,rfl,?_⟩;have n0_:=Aside0.mk (below_step (by repeat (first|(with_reducible first|exact HB.out|apply below_alloc|apply pw_below_drewN|apply below_drew1)|exact HB.out)) hb);clear HB;have HB:=n0_;clear n0_;(try clear hb);(try clear hb2);(try clear hk);(try clear hi)))
   go_loopg [6,7] k (fun kq v6 v7 w'=> ∃(x6_1:List ByteArray) (x7_1:Int),v7= .int .i64 x7_1∧Aside0 (mummerref04_Symbols.l0 kq l0 x6_1 x7_1=some (r1,r2))∧Aside0 (kq≤k)∧Aside0 (Kd.R Kd.string 9 w' w.heap.size (fun _=>True) v6 x6_1)∧Aside0 (Below w.heap.size w w'))
   case atStart=>exact ⟨(([]:List ByteArray)),(0),(by first|rfl|(simp;done)|(simp [*];done)),H',⟨Nat.le_refl _⟩,⟨by first|exact Kd.R_nil _ _ _ _ _|exact Kd.N_nil _ _ _ _ _|exact Kd.V_nil _ _ _ _ _|exact Kd.Q_nil _ _ _ _ _|exact Kd.S_nil _ _ _ _ _⟩,⟨by repeat (first|(with_reducible first|exact HB.out|apply below_alloc|apply pw_below_drewN|apply below_drew1)|exact HB.out)⟩⟩
   case round=>
    clear H'
    try clear c1
    try clear c2
    try clear p2
    try clear c3
    try clear c3b0
    try clear c3b1
    obtain ⟨x6_1,x7_1,rfl,HA,HK1,HO_6,HB⟩:=hrel
    cases gk with
    |zero=>exact absurd HA.out (by simp [mummerref04_Symbols.l0])
    |succ k1=>
     have H:=HA.out;clear HA;simp only [mummerref04_Symbols.l0] at H;by_cases c5:x7_1<(l0.length:Int)
     · rw [if_pos c5] at H;have c5b0:decide (x7_1<(l0.length:Int))=true:=decide_eq_true c5;clear c5;by_cases c6:0≤x7_1
       · rw [if_pos c6] at H;have c6b0:decide (0≤x7_1)=true:=decide_eq_true c6;clear c6;by_cases c7:((rd_T40 l0 x7_1).f0)=3
         · rw [if_pos c7] at H;have c7b0:(((rd_T40 l0 x7_1).f0)==3)=true:=beq_iff_eq.mpr c7;have c7b1:(((rd_T40 l0 x7_1).f0) != 3)=false:=bne_eq_false_iff_eq.mpr c7;clear c7;have H':=Aside0.mk H;clear H;have p248:0≤(x7_1:Int):=of_decide_eq_true (by first|(with_reducible assumption)|assumption);have q248:x7_1<(l0.length:Int):=of_decide_eq_true (by first|(with_reducible assumption)|assumption);obtain ⟨ad248,e248,hx248_0,hx248_1,hx248_2,hx248_3⟩:=at_T40 HR0.out x7_1 p248 q248;cases e248;replace hx248_0:=(HB.out.cell (World.block_lt_of_cell? w _ hx248_0)).trans hx248_0;replace hx248_1:=(HB.out.cell (World.block_lt_of_cell? w _ hx248_1)).trans hx248_1;replace hx248_2:=(HB.out.cell (World.block_lt_of_cell? w _ hx248_2)).trans hx248_2;replace hx248_3:=(HB.out.cell (World.block_lt_of_cell? w _ hx248_3)).trans hx248_3;replace p248:=eq_true p248;replace q248:=eq_true q248;obtain ⟨Ao8,co8,eo8⟩:=Kd.R_slice HO_6.out;subst eo8;go_wp2
           go_loopg [8] k1 (fun kq v8 w'=> ∃(x8_2:Int),v8= .int .i64 x8_2∧Aside0 (mummerref04_Symbols.l1 kq l0 x6_1 x7_1 x8_2=some (r1,r2))∧Aside0 (kq≤k1)∧Aside0 (Kd.R Kd.string 9 w' w.heap.size (fun _=>True) (.slice Ao8 x6_1.length co8) x6_1)∧Aside0 (Below w.heap.size w w'))
           case atStart=>exact ⟨((x6_1.length:Int)),(by first|rfl|(simp;done)|(simp [*];done)),H',⟨Nat.le_refl _⟩,⟨by (with_reducible repeat (first|apply Kd.R_alloc|apply Kd.R_drewN|apply Kd.R_drew));exact HO_6.out⟩,⟨by repeat (first|(with_reducible first|exact HB.out|apply below_alloc|apply pw_below_drewN|apply below_drew1)|exact HB.out)⟩⟩
           case round=>
             clear H'
             try clear c1
             try clear c2
             try clear p2
             try clear q2
             try clear hx2
             try clear c3
             try clear c3b0
             try clear c3b1
             try clear c5
             try clear c5b0
             try clear c6
             try clear c6b0
             try clear c7
             try clear c7b0
             try clear c7b1
             try clear hx248_0
             try clear hx248_1
             try clear hx248_2
             try clear hx248_3
             try clear p2
             try clear p248
             try clear q248
             obtain ⟨x8_2,rfl,HA,HK2,HO_6,HB⟩:=hrel
             cases gk with
             |zero=>exact absurd HA.out (by simp [mummerref04_Symbols.l1])
             |succ k2=>
              have H:=HA.out;clear HA;simp only [mummerref04_Symbols.l1] at H;by_cases c9:x8_2>0
              · rw [if_pos c9] at H;have c9b0:decide (0<x8_2)=true:=decide_eq_true c9;clear c9;by_cases c10:0≤x7_1
                · rw [if_pos c10] at H;have c10b0:decide (0≤x7_1)=true:=decide_eq_true c10;clear c10;by_cases c11:x7_1<(l0.length:Int)
                  · rw [if_pos c11] at H;have c11b0:decide (x7_1<(l0.length:Int))=true:=decide_eq_true c11;clear c11
                    obtain ⟨ji12,hji12⟩: ∃j_:Int,(wrap64 (x8_2-1))=j_:=⟨_,rfl⟩
                    replace H:(if 0≤(ji12) then (if (ji12)<(x6_1.length:Int) then (if (Op.bytesLess (((rd_T40 l0 x7_1).f3).toList) ((rdOf ByteArray.empty x6_1 (ji12)).toList))=true then (mummerref04_Symbols.l1 k2 l0 x6_1 x7_1 ji12) else (if (rdOf ByteArray.empty x6_1 (ji12)).toList=((rd_T40 l0 x7_1).f3).toList then (mummerref04_Symbols.l0 k2 l0 x6_1 (wrap64 (x7_1+1))) else ((some (([(rd_T40 l0 x7_1).f3]:List ByteArray):List ByteArray)).bind fun y254=>(if 0≤x8_2 then (if x8_2≤(x6_1.length:Int) then ((some (x6_1.drop (x8_2:Int).toNat:List ByteArray)).bind fun y257=>(if y254.length+y257.length<8796093022208 then ((some (y254++y257:List ByteArray)).bind fun y261=>((some (([]:List ByteArray):List ByteArray)).bind fun y264=>((some (x6_1.take (x8_2:Int).toNat:List ByteArray)).bind fun y267=>(if y264.length+y267.length<8796093022208 then ((some (y264++y267:List ByteArray)).bind fun y271=>(if y271.length+y261.length<8796093022208 then (mummerref04_Symbols.l0 k2 l0 (y271++y261) (wrap64 (x7_1+1))) else (none))) else (none))))) else (none))) else (none)) else (none))))) else (none)) else (none))=some (r1,r2):=by first|(rw [hji12] at H;exact H)|(simp only [hji12] at H ⊢; exact H)
                    have hji12w:(IntKind.i64.wrap (x8_2-1))=ji12:=(i64_w _).trans hji12;by_cases c13:0≤(ji12)
                    · rw [if_pos c13] at H;have c13b0:decide (0≤(ji12))=true:=decide_eq_true c13;clear c13;by_cases c14:(ji12)<(x6_1.length:Int)
                      · rw [if_pos c14] at H;have c14b0:decide ((ji12)<(x6_1.length:Int))=true:=decide_eq_true c14;clear c14;by_cases c15:(Op.bytesLess (((rd_T40 l0 x7_1).f3).toList) ((rdOf ByteArray.empty x6_1 (ji12)).toList))=true
                        · rw [if_pos c15] at H;have c15b0:(Op.bytesLess (((rd_T40 l0 x7_1).f3).toList) ((rdOf ByteArray.empty x6_1 (ji12)).toList))=true:=c15;clear c15;have H':=Aside0.mk H;clear H
                          try go_wp2
                          have n0_:=Aside0.mk (Kd.R_drew HO_6.out);have n1_:=Aside0.mk (below_drew1 HB.out);clear HO_6 HB;have HO_6:=n0_;have HB:=n1_;clear n0_ n1_;have p249:0≤(x7_1:Int):=of_decide_eq_true (by first|(with_reducible assumption)|assumption);have q249:x7_1<(l0.length:Int):=of_decide_eq_true (by first|(with_reducible assumption)|assumption);obtain ⟨ad249,e249,hx249_0,hx249_1,hx249_2,hx249_3⟩:=at_T40 HR0.out x7_1 p249 q249;have hw249_3:=hx249_3;have hw249_2:=hx249_2;have hw249_1:=hx249_1;have hw249_0:=hx249_0
                          obtain rfl:ad248=ad249:=(by injection e249)
                          replace hx249_0:=(HB.out.cell (World.block_lt_of_cell? w _ hx249_0)).trans hx249_0;replace hx249_1:=(HB.out.cell (World.block_lt_of_cell? w _ hx249_1)).trans hx249_1;replace hx249_2:=(HB.out.cell (World.block_lt_of_cell? w _ hx249_2)).trans hx249_2;replace hx249_3:=(HB.out.cell (World.block_lt_of_cell? w _ hx249_3)).trans hx249_3;replace p249:=eq_true p249;replace q249:=eq_true q249;have p250:0≤((ji12):Int):=of_decide_eq_true (by first|(with_reducible assumption)|assumption);have q250:(ji12)<(x6_1.length:Int):=of_decide_eq_true (by first|(with_reducible assumption)|assumption);obtain ⟨ad250,e250,hx250_0⟩:=Kd.at_string (Kd.R_reads' HO_6.out).2.2 (ji12) p250 q250;cases e250;replace p250:=eq_true p250;replace q250:=eq_true q250;refine start_ (n:=15) (S:=fun w'=>w'.cell? (ad248.add ((x7_1).toNat*4))=some (.int .i64 ((rd_T40 l0 x7_1).f0))∧w'.cell? ⟨(ad248.add ((x7_1).toNat*4)).block,(ad248.add ((x7_1).toNat*4)).off+1,none⟩=some (.int .i64 ((rd_T40 l0 x7_1).f1))∧w'.cell? ⟨(ad248.add ((x7_1).toNat*4)).block,(ad248.add ((x7_1).toNat*4)).off+2,none⟩=some (.int .i64 ((rd_T40 l0 x7_1).f2))∧w'.cell? ⟨(ad248.add ((x7_1).toNat*4)).block,(ad248.add ((x7_1).toNat*4)).off+3,none⟩=some (.string ((rd_T40 l0 x7_1).f3))∧w'.cell? (ad250.add ((ji12)).toNat)=some (.string (rdOf ByteArray.empty x6_1 (ji12)))) (ds:=[]) #[false,false,false,false,false,false,false,false,false,false,false,false,false,false,false] (by kernel_rfl) rfl rfl ⟨((HB.out.cell (World.block_lt_of_cell? w _ hw249_0)).trans hw249_0),((HB.out.cell (World.block_lt_of_cell? w _ hw249_1)).trans hw249_1),((HB.out.cell (World.block_lt_of_cell? w _ hw249_2)).trans hw249_2),((HB.out.cell (World.block_lt_of_cell? w _ hw249_3)).trans hw249_3),hx250_0⟩ (fun hHeld=>?_);refine with_tabW mummerref04_Symbols.tab10 mummerref04_Symbols.bits10 (fun HT_ HW_=>?_);generalize wr.drew=w16 at HO_6 HB hx249_0 hx249_1 hx249_2 hx249_3 hx250_0 hHeld ⊢; refine pure_ (i:=0) (N:=some 32) (v:=?_) (a':=?_) #[true,false,false,false,false,false,false,false,false,false,false,false,false,false,false] rfl rfl (any_of HT_.out (by kernel_rfl)) (fun _ _ _ h=>h) (Or.inl ⟨by rfl,?_⟩) ?_ ?_;rotate_left
                          · intro w';go_simp
                            with_reducible rfl
                          rotate_left
                          · simp only [Act.put,List.setIfInBounds_toArray,List.set_cons_zero,List.set_cons_succ,i64_w,i32_w];rfl
                          refine pure_ (i:=1) (N:=some 33) (v:=?_) (a':=?_) #[true,true,false,false,false,false,false,false,false,false,false,false,false,false,false] rfl rfl (any_of HT_.out (by kernel_rfl)) (fun _ _ _ h=>h) (Or.inl ⟨by rfl,?_⟩) ?_ ?_;rotate_left
                          · intro w';go_simp
                            with_reducible rfl
                          rotate_left
                          · simp only [Act.put,List.setIfInBounds_toArray,List.set_cons_zero,List.set_cons_succ,i64_w,i32_w];rfl
                          refine pure_ (i:=2) (N:=some 34) (v:=?_) (a':=?_) #[true,true,true,false,false,false,false,false,false,false,false,false,false,false,false] rfl rfl (any_of HT_.out (by kernel_rfl)) (fun _ _ _ h=>h) (Or.inl ⟨by rfl,?_⟩) ?_ ?_;rotate_left
                          · intro w';go_simp
                            with_reducible rfl
                          rotate_left
                          · simp only [Act.put,List.setIfInBounds_toArray,List.set_cons_zero,List.set_cons_succ,i64_w,i32_w];rfl
                          refine pure_ (i:=3) (N:=some 35) (v:=?_) (a':=?_) #[true,true,true,true,false,false,false,false,false,false,false,false,false,false,false] rfl rfl (any_of HT_.out (by kernel_rfl)) (fun _ _ _ h=>h) (Or.inl ⟨by rfl,?_⟩) ?_ ?_;rotate_left
                          · intro w';go_simp
                            with_reducible rfl
                          rotate_left
                          · simp only [Act.put,List.setIfInBounds_toArray,List.set_cons_zero,List.set_cons_succ,i64_w,i32_w];rfl
                          refine pure_ (i:=4) (N:=some 36) (v:=?_) (a':=?_) #[true,true,true,true,true,false,false,false,false,false,false,false,false,false,false] rfl rfl (any_of HT_.out (by kernel_rfl)) (fun _ _ _ h=>h) (Or.inl ⟨by rfl,?_⟩) ?_ ?_;rotate_left
                          · intro w';go_simp
                            with_reducible rfl
                          rotate_left
                          · simp only [Act.put,List.setIfInBounds_toArray,List.set_cons_zero,List.set_cons_succ,i64_w,i32_w];rfl
                          refine pure_ (i:=5) (N:=some 37) (v:=?_) (a':=?_) #[true,true,true,true,true,true,false,false,false,false,false,false,false,false,false] rfl rfl (any_of HT_.out (by kernel_rfl)) (fun _ _ _ h=>h) (Or.inl ⟨by rfl,?_⟩) ?_ ?_;rotate_left
                          · intro w';go_simp
                            with_reducible rfl
                          rotate_left
                          · simp only [Act.put,List.setIfInBounds_toArray,List.set_cons_zero,List.set_cons_succ,i64_w,i32_w];rfl
                          refine pure_ (i:=6) (N:=some 38) (v:=?_) (a':=?_) #[true,true,true,true,true,true,true,false,false,false,false,false,false,false,false] rfl rfl (any_of HT_.out (by kernel_rfl)) (fun _ _ _ h=>h) (Or.inl ⟨by rfl,?_⟩) ?_ ?_;rotate_left
                          · intro w';go_simp
                            with_reducible rfl
                          rotate_left
                          · simp only [Act.put,List.setIfInBounds_toArray,List.set_cons_zero,List.set_cons_succ,i64_w,i32_w];rfl
                          refine pure_ (i:=8) (N:=some 40) (v:=?_) (a':=?_) #[true,true,true,true,true,true,true,false,true,false,false,false,false,false,false] rfl rfl (any_of HT_.out (by kernel_rfl)) (fun _ _ _ h=>h) (Or.inl ⟨by rfl,?_⟩) ?_ ?_;rotate_left
                          · intro w';go_simp
                            with_reducible rfl
                          rotate_left
                          · simp only [Act.put,List.setIfInBounds_toArray,List.set_cons_zero,List.set_cons_succ,i64_w,i32_w];rfl
                          refine pure_ (i:=9) (N:=some 41) (v:=?_) (a':=?_) #[true,true,true,true,true,true,true,false,true,true,false,false,false,false,false] rfl rfl (any_of HT_.out (by kernel_rfl)) (fun _ _ _ h=>h) (Or.inl ⟨by rfl,?_⟩) ?_ ?_;rotate_left
                          · intro w';go_simp
                            with_reducible rfl
                          rotate_left
                          · simp only [Act.put,List.setIfInBounds_toArray,List.set_cons_zero,List.set_cons_succ,i64_w,i32_w];rfl
                          refine pure_ (i:=10) (N:=some 42) (v:=?_) (a':=?_) #[true,true,true,true,true,true,true,false,true,true,true,false,false,false,false] rfl rfl (any_of HT_.out (by kernel_rfl)) (fun _ _ _ h=>h) (Or.inl ⟨by rfl,?_⟩) ?_ ?_;rotate_left
                          · intro w';go_simp
                            with_reducible rfl
                          rotate_left
                          · simp only [Act.put,List.setIfInBounds_toArray,List.set_cons_zero,List.set_cons_succ,i64_w,i32_w];rfl
                          refine pure_ (i:=11) (N:=some 43) (v:=?_) (a':=?_) #[true,true,true,true,true,true,true,false,true,true,true,true,false,false,false] rfl rfl (any_of HT_.out (by kernel_rfl)) (fun _ _ _ h=>h) (Or.inl ⟨by rfl,?_⟩) ?_ ?_;rotate_left
                          · intro w';go_simp
                            with_reducible rfl
                          rotate_left
                          · simp only [Act.put,List.setIfInBounds_toArray,List.set_cons_zero,List.set_cons_succ,i64_w,i32_w];rfl
                          refine take_ (i:=7) (N:=some 39) (v:=?_) (a':=?_) #[true,true,true,true,true,true,true,true,true,true,true,true,false,false,false] rfl rfl (take_ofW HT_.out HW_.out (by kernel_rfl)) (fun _ _ _ h=>h) (Or.inl ⟨by rfl,?_⟩) hHeld ?_ ?_;rotate_left
                          · rintro w' ⟨s0,s1,s2,s3,s4⟩;go_simp
                            with_reducible rfl
                          rotate_left
                          · simp only [Act.put,List.setIfInBounds_toArray,List.set_cons_zero,List.set_cons_succ,i64_w,i32_w];rfl
                          refine take_ (i:=12) (N:=some 44) (v:=?_) (a':=?_) #[true,true,true,true,true,true,true,true,true,true,true,true,true,false,false] rfl rfl (take_ofW HT_.out HW_.out (by kernel_rfl)) (fun _ _ _ h=>h) (Or.inl ⟨by rfl,?_⟩) hHeld ?_ ?_;rotate_left
                          · rintro w' ⟨s0,s1,s2,s3,s4⟩;go_simp
                            with_reducible rfl
                          rotate_left
                          · simp only [Act.put,List.setIfInBounds_toArray,List.set_cons_zero,List.set_cons_succ,i64_w,i32_w];rfl
                          refine pure_ (i:=13) (N:=some 45) (v:=?_) (a':=?_) #[true,true,true,true,true,true,true,true,true,true,true,true,true,true,false] rfl rfl (any_of HT_.out (by kernel_rfl)) (fun _ _ _ h=>h) (Or.inl ⟨by rfl,?_⟩) ?_ ?_;rotate_left
                          · intro w';go_simp
                            with_reducible rfl
                          rotate_left
                          · simp only [Act.put,List.setIfInBounds_toArray,List.set_cons_zero,List.set_cons_succ,i64_w,i32_w];rfl
                          refine pure_ (i:=14) (N:=some 46) (v:=?_) (a':=?_) #[true,true,true,true,true,true,true,true,true,true,true,true,true,true,true] rfl rfl (any_of HT_.out (by kernel_rfl)) (fun _ _ _ h=>h) (Or.inl ⟨by rfl,?_⟩) ?_ ?_;rotate_left
                          · intro w';go_simp
                            with_reducible rfl
                          rotate_left
                          · simp only [Act.put,List.setIfInBounds_toArray,List.set_cons_zero,List.set_cons_succ,i64_w,i32_w];rfl
                          refine done_ (done_of HT_.out (by kernel_rfl)) ?_
                          try go_wp2
                          go_roundg k2
                          case measure=>have:=HK1.out;have:=HK2.out;omega
                          case rel=>exact ⟨(ji12),(by first|rfl|(simp;done)|(simp only [←hji12]<;>(first|rfl|simp))|(simp [*];done)),H',⟨by have:=HK1.out;have:=HK2.out;omega⟩,⟨by (with_reducible repeat (first|apply Kd.R_alloc|apply Kd.R_drewN|apply Kd.R_drew));exact HO_6.out⟩,⟨by repeat (first|(with_reducible first|exact HB.out|apply below_alloc|apply pw_below_drewN|apply below_drew1)|exact HB.out)⟩⟩
                        · rw [if_neg c15] at H
                          have c15b0:(Op.bytesLess (((rd_T40 l0 x7_1).f3).toList) ((rdOf ByteArray.empty x6_1 (ji12)).toList))=false:=by simpa using c15
                          clear c15;by_cases c17:(rdOf ByteArray.empty x6_1 (ji12)).toList=((rd_T40 l0 x7_1).f3).toList
                          · rw [if_pos c17] at H;have c17b0:((rdOf ByteArray.empty x6_1 (ji12)).toList==((rd_T40 l0 x7_1).f3).toList)=true:=beq_iff_eq.mpr c17;have c17b1:((rdOf ByteArray.empty x6_1 (ji12)).toList != ((rd_T40 l0 x7_1).f3).toList)=false:=bne_eq_false_iff_eq.mpr c17;clear c17;have H':=Aside0.mk H;clear H
                            try go_wp2
                            have n0_:=Aside0.mk (Kd.R_drew HO_6.out);have n1_:=Aside0.mk (below_drew1 HB.out);clear HO_6 HB;have HO_6:=n0_;have HB:=n1_;clear n0_ n1_;have p249:0≤(x7_1:Int):=of_decide_eq_true (by first|(with_reducible assumption)|assumption);have q249:x7_1<(l0.length:Int):=of_decide_eq_true (by first|(with_reducible assumption)|assumption);obtain ⟨ad249,e249,hx249_0,hx249_1,hx249_2,hx249_3⟩:=at_T40 HR0.out x7_1 p249 q249;have hw249_3:=hx249_3;have hw249_2:=hx249_2;have hw249_1:=hx249_1;have hw249_0:=hx249_0
                            obtain rfl:ad248=ad249:=(by injection e249)
                            replace hx249_0:=(HB.out.cell (World.block_lt_of_cell? w _ hx249_0)).trans hx249_0;replace hx249_1:=(HB.out.cell (World.block_lt_of_cell? w _ hx249_1)).trans hx249_1;replace hx249_2:=(HB.out.cell (World.block_lt_of_cell? w _ hx249_2)).trans hx249_2;replace hx249_3:=(HB.out.cell (World.block_lt_of_cell? w _ hx249_3)).trans hx249_3;replace p249:=eq_true p249;replace q249:=eq_true q249;have p250:0≤((ji12):Int):=of_decide_eq_true (by first|(with_reducible assumption)|assumption);have q250:(ji12)<(x6_1.length:Int):=of_decide_eq_true (by first|(with_reducible assumption)|assumption);obtain ⟨ad250,e250,hx250_0⟩:=Kd.at_string (Kd.R_reads' HO_6.out).2.2 (ji12) p250 q250;cases e250;replace p250:=eq_true p250;replace q250:=eq_true q250;refine start_ (n:=15) (S:=fun w'=>w'.cell? (ad248.add ((x7_1).toNat*4))=some (.int .i64 ((rd_T40 l0 x7_1).f0))∧w'.cell? ⟨(ad248.add ((x7_1).toNat*4)).block,(ad248.add ((x7_1).toNat*4)).off+1,none⟩=some (.int .i64 ((rd_T40 l0 x7_1).f1))∧w'.cell? ⟨(ad248.add ((x7_1).toNat*4)).block,(ad248.add ((x7_1).toNat*4)).off+2,none⟩=some (.int .i64 ((rd_T40 l0 x7_1).f2))∧w'.cell? ⟨(ad248.add ((x7_1).toNat*4)).block,(ad248.add ((x7_1).toNat*4)).off+3,none⟩=some (.string ((rd_T40 l0 x7_1).f3))∧w'.cell? (ad250.add ((ji12)).toNat)=some (.string (rdOf ByteArray.empty x6_1 (ji12)))) (ds:=[]) #[false,false,false,false,false,false,false,false,false,false,false,false,false,false,false] (by kernel_rfl) rfl rfl ⟨((HB.out.cell (World.block_lt_of_cell? w _ hw249_0)).trans hw249_0),((HB.out.cell (World.block_lt_of_cell? w _ hw249_1)).trans hw249_1),((HB.out.cell (World.block_lt_of_cell? w _ hw249_2)).trans hw249_2),((HB.out.cell (World.block_lt_of_cell? w _ hw249_3)).trans hw249_3),hx250_0⟩ (fun hHeld=>?_);refine with_tabW mummerref04_Symbols.tab10 mummerref04_Symbols.bits10 (fun HT_ HW_=>?_);generalize wr.drew=w18 at HO_6 HB hx249_0 hx249_1 hx249_2 hx249_3 hx250_0 hHeld ⊢; refine pure_ (i:=0) (N:=some 32) (v:=?_) (a':=?_) #[true,false,false,false,false,false,false,false,false,false,false,false,false,false,false] rfl rfl (any_of HT_.out (by kernel_rfl)) (fun _ _ _ h=>h) (Or.inl ⟨by rfl,?_⟩) ?_ ?_;rotate_left
                            · intro w';go_simp
                              with_reducible rfl
                            rotate_left
                            · simp only [Act.put,List.setIfInBounds_toArray,List.set_cons_zero,List.set_cons_succ,i64_w,i32_w];rfl
                            refine pure_ (i:=1) (N:=some 33) (v:=?_) (a':=?_) #[true,true,false,false,false,false,false,false,false,false,false,false,false,false,false] rfl rfl (any_of HT_.out (by kernel_rfl)) (fun _ _ _ h=>h) (Or.inl ⟨by rfl,?_⟩) ?_ ?_;rotate_left
                            · intro w';go_simp
                              with_reducible rfl
                            rotate_left
                            · simp only [Act.put,List.setIfInBounds_toArray,List.set_cons_zero,List.set_cons_succ,i64_w,i32_w];rfl
                            refine pure_ (i:=2) (N:=some 34) (v:=?_) (a':=?_) #[true,true,true,false,false,false,false,false,false,false,false,false,false,false,false] rfl rfl (any_of HT_.out (by kernel_rfl)) (fun _ _ _ h=>h) (Or.inl ⟨by rfl,?_⟩) ?_ ?_;rotate_left
                            · intro w';go_simp
                              with_reducible rfl
                            rotate_left
                            · simp only [Act.put,List.setIfInBounds_toArray,List.set_cons_zero,List.set_cons_succ,i64_w,i32_w];rfl
                            refine pure_ (i:=3) (N:=some 35) (v:=?_) (a':=?_) #[true,true,true,true,false,false,false,false,false,false,false,false,false,false,false] rfl rfl (any_of HT_.out (by kernel_rfl)) (fun _ _ _ h=>h) (Or.inl ⟨by rfl,?_⟩) ?_ ?_;rotate_left
                            · intro w';go_simp
                              with_reducible rfl
                            rotate_left
                            · simp only [Act.put,List.setIfInBounds_toArray,List.set_cons_zero,List.set_cons_succ,i64_w,i32_w];rfl
                            refine pure_ (i:=4) (N:=some 36) (v:=?_) (a':=?_) #[true,true,true,true,true,false,false,false,false,false,false,false,false,false,false] rfl rfl (any_of HT_.out (by kernel_rfl)) (fun _ _ _ h=>h) (Or.inl ⟨by rfl,?_⟩) ?_ ?_;rotate_left
                            · intro w';go_simp
                              with_reducible rfl
                            rotate_left
                            · simp only [Act.put,List.setIfInBounds_toArray,List.set_cons_zero,List.set_cons_succ,i64_w,i32_w];rfl
                            refine pure_ (i:=5) (N:=some 37) (v:=?_) (a':=?_) #[true,true,true,true,true,true,false,false,false,false,false,false,false,false,false] rfl rfl (any_of HT_.out (by kernel_rfl)) (fun _ _ _ h=>h) (Or.inl ⟨by rfl,?_⟩) ?_ ?_;rotate_left
                            · intro w';go_simp
                              with_reducible rfl
                            rotate_left
                            · simp only [Act.put,List.setIfInBounds_toArray,List.set_cons_zero,List.set_cons_succ,i64_w,i32_w];rfl
                            refine pure_ (i:=6) (N:=some 38) (v:=?_) (a':=?_) #[true,true,true,true,true,true,true,false,false,false,false,false,false,false,false] rfl rfl (any_of HT_.out (by kernel_rfl)) (fun _ _ _ h=>h) (Or.inl ⟨by rfl,?_⟩) ?_ ?_;rotate_left
                            · intro w';go_simp
                              with_reducible rfl
                            rotate_left
                            · simp only [Act.put,List.setIfInBounds_toArray,List.set_cons_zero,List.set_cons_succ,i64_w,i32_w];rfl
                            refine pure_ (i:=8) (N:=some 40) (v:=?_) (a':=?_) #[true,true,true,true,true,true,true,false,true,false,false,false,false,false,false] rfl rfl (any_of HT_.out (by kernel_rfl)) (fun _ _ _ h=>h) (Or.inl ⟨by rfl,?_⟩) ?_ ?_;rotate_left
                            · intro w';go_simp
                              with_reducible rfl
                            rotate_left
                            · simp only [Act.put,List.setIfInBounds_toArray,List.set_cons_zero,List.set_cons_succ,i64_w,i32_w];rfl
                            refine pure_ (i:=9) (N:=some 41) (v:=?_) (a':=?_) #[true,true,true,true,true,true,true,false,true,true,false,false,false,false,false] rfl rfl (any_of HT_.out (by kernel_rfl)) (fun _ _ _ h=>h) (Or.inl ⟨by rfl,?_⟩) ?_ ?_;rotate_left
                            · intro w';go_simp
                              with_reducible rfl
                            rotate_left
                            · simp only [Act.put,List.setIfInBounds_toArray,List.set_cons_zero,List.set_cons_succ,i64_w,i32_w];rfl
                            refine pure_ (i:=10) (N:=some 42) (v:=?_) (a':=?_) #[true,true,true,true,true,true,true,false,true,true,true,false,false,false,false] rfl rfl (any_of HT_.out (by kernel_rfl)) (fun _ _ _ h=>h) (Or.inl ⟨by rfl,?_⟩) ?_ ?_;rotate_left
                            · intro w';go_simp
                              with_reducible rfl
                            rotate_left
                            · simp only [Act.put,List.setIfInBounds_toArray,List.set_cons_zero,List.set_cons_succ,i64_w,i32_w];rfl
                            refine pure_ (i:=11) (N:=some 43) (v:=?_) (a':=?_) #[true,true,true,true,true,true,true,false,true,true,true,true,false,false,false] rfl rfl (any_of HT_.out (by kernel_rfl)) (fun _ _ _ h=>h) (Or.inl ⟨by rfl,?_⟩) ?_ ?_;rotate_left
                            · intro w';go_simp
                              with_reducible rfl
                            rotate_left
                            · simp only [Act.put,List.setIfInBounds_toArray,List.set_cons_zero,List.set_cons_succ,i64_w,i32_w];rfl
                            refine take_ (i:=7) (N:=some 39) (v:=?_) (a':=?_) #[true,true,true,true,true,true,true,true,true,true,true,true,false,false,false] rfl rfl (take_ofW HT_.out HW_.out (by kernel_rfl)) (fun _ _ _ h=>h) (Or.inl ⟨by rfl,?_⟩) hHeld ?_ ?_;rotate_left
                            · rintro w' ⟨s0,s1,s2,s3,s4⟩;go_simp
                              with_reducible rfl
                            rotate_left
                            · simp only [Act.put,List.setIfInBounds_toArray,List.set_cons_zero,List.set_cons_succ,i64_w,i32_w];rfl
                            refine take_ (i:=12) (N:=some 44) (v:=?_) (a':=?_) #[true,true,true,true,true,true,true,true,true,true,true,true,true,false,false] rfl rfl (take_ofW HT_.out HW_.out (by kernel_rfl)) (fun _ _ _ h=>h) (Or.inl ⟨by rfl,?_⟩) hHeld ?_ ?_;rotate_left
                            · rintro w' ⟨s0,s1,s2,s3,s4⟩;go_simp
                              with_reducible rfl
                            rotate_left
                            · simp only [Act.put,List.setIfInBounds_toArray,List.set_cons_zero,List.set_cons_succ,i64_w,i32_w];rfl
                            refine pure_ (i:=13) (N:=some 45) (v:=?_) (a':=?_) #[true,true,true,true,true,true,true,true,true,true,true,true,true,true,false] rfl rfl (any_of HT_.out (by kernel_rfl)) (fun _ _ _ h=>h) (Or.inl ⟨by rfl,?_⟩) ?_ ?_;rotate_left
                            · intro w';go_simp
                              with_reducible rfl
                            rotate_left
                            · simp only [Act.put,List.setIfInBounds_toArray,List.set_cons_zero,List.set_cons_succ,i64_w,i32_w];rfl
                            refine pure_ (i:=14) (N:=some 46) (v:=?_) (a':=?_) #[true,true,true,true,true,true,true,true,true,true,true,true,true,true,true] rfl rfl (any_of HT_.out (by kernel_rfl)) (fun _ _ _ h=>h) (Or.inl ⟨by rfl,?_⟩) ?_ ?_;rotate_left
                            · intro w';go_simp
                              with_reducible rfl
                            rotate_left
                            · simp only [Act.put,List.setIfInBounds_toArray,List.set_cons_zero,List.set_cons_succ,i64_w,i32_w];rfl
                            refine done_ (done_of HT_.out (by kernel_rfl)) ?_
                            try go_wp2
                            have n0_:=Aside0.mk (Kd.R_drew HO_6.out);have n1_:=Aside0.mk (below_drew1 HB.out);clear HO_6 HB;have HO_6:=n0_;have HB:=n1_;clear n0_ n1_;have p251:0≤((ji12):Int):=of_decide_eq_true (by first|(with_reducible assumption)|assumption);have q251:(ji12)<(x6_1.length:Int):=of_decide_eq_true (by first|(with_reducible assumption)|assumption);obtain ⟨ad251,e251,hx251_0⟩:=Kd.at_string (Kd.R_reads' HO_6.out).2.2 (ji12) p251 q251
                            obtain rfl:ad250=ad251:=(by injection e251)
                            replace p251:=eq_true p251;replace q251:=eq_true q251;have p252:0≤(x7_1:Int):=of_decide_eq_true (by first|(with_reducible assumption)|assumption);have q252:x7_1<(l0.length:Int):=of_decide_eq_true (by first|(with_reducible assumption)|assumption);obtain ⟨ad252,e252,hx252_0,hx252_1,hx252_2,hx252_3⟩:=at_T40 HR0.out x7_1 p252 q252;have hw252_3:=hx252_3;have hw252_2:=hx252_2;have hw252_1:=hx252_1;have hw252_0:=hx252_0
                            obtain rfl:ad248=ad252:=(by injection e252)
                            replace hx252_0:=(HB.out.cell (World.block_lt_of_cell? w _ hx252_0)).trans hx252_0;replace hx252_1:=(HB.out.cell (World.block_lt_of_cell? w _ hx252_1)).trans hx252_1;replace hx252_2:=(HB.out.cell (World.block_lt_of_cell? w _ hx252_2)).trans hx252_2;replace hx252_3:=(HB.out.cell (World.block_lt_of_cell? w _ hx252_3)).trans hx252_3;replace p252:=eq_true p252;replace q252:=eq_true q252;refine start_ (n:=15) (S:=fun w'=>w'.cell? (ad250.add ((ji12)).toNat)=some (.string (rdOf ByteArray.empty x6_1 (ji12)))∧w'.cell? (ad248.add ((x7_1).toNat*4))=some (.int .i64 ((rd_T40 l0 x7_1).f0))∧w'.cell? ⟨(ad248.add ((x7_1).toNat*4)).block,(ad248.add ((x7_1).toNat*4)).off+1,none⟩=some (.int .i64 ((rd_T40 l0 x7_1).f1))∧w'.cell? ⟨(ad248.add ((x7_1).toNat*4)).block,(ad248.add ((x7_1).toNat*4)).off+2,none⟩=some (.int .i64 ((rd_T40 l0 x7_1).f2))∧w'.cell? ⟨(ad248.add ((x7_1).toNat*4)).block,(ad248.add ((x7_1).toNat*4)).off+3,none⟩=some (.string ((rd_T40 l0 x7_1).f3))) (ds:=[]) #[false,false,false,false,false,false,false,false,false,false,false,false,false,false,false] (by kernel_rfl) rfl rfl ⟨hx251_0,((HB.out.cell (World.block_lt_of_cell? w _ hw252_0)).trans hw252_0),((HB.out.cell (World.block_lt_of_cell? w _ hw252_1)).trans hw252_1),((HB.out.cell (World.block_lt_of_cell? w _ hw252_2)).trans hw252_2),((HB.out.cell (World.block_lt_of_cell? w _ hw252_3)).trans hw252_3)⟩ (fun hHeld=>?_);refine with_tabW mummerref04_Symbols.tab12 mummerref04_Symbols.bits12 (fun HT_ HW_=>?_);generalize w18.drew=w19 at HO_6 HB hx251_0 hx252_0 hx252_1 hx252_2 hx252_3 hHeld ⊢; refine pure_ (i:=0) (N:=some 49) (v:=?_) (a':=?_) #[true,false,false,false,false,false,false,false,false,false,false,false,false,false,false] rfl rfl (any_of HT_.out (by kernel_rfl)) (fun _ _ _ h=>h) (Or.inl ⟨by rfl,?_⟩) ?_ ?_;rotate_left
                            · intro w';go_simp
                              with_reducible rfl
                            rotate_left
                            · simp only [Act.put,List.setIfInBounds_toArray,List.set_cons_zero,List.set_cons_succ,i64_w,i32_w];rfl
                            refine pure_ (i:=1) (N:=some 50) (v:=?_) (a':=?_) #[true,true,false,false,false,false,false,false,false,false,false,false,false,false,false] rfl rfl (any_of HT_.out (by kernel_rfl)) (fun _ _ _ h=>h) (Or.inl ⟨by rfl,?_⟩) ?_ ?_;rotate_left
                            · intro w';go_simp
                              with_reducible rfl
                            rotate_left
                            · simp only [Act.put,List.setIfInBounds_toArray,List.set_cons_zero,List.set_cons_succ,i64_w,i32_w];rfl
                            refine pure_ (i:=2) (N:=some 51) (v:=?_) (a':=?_) #[true,true,true,false,false,false,false,false,false,false,false,false,false,false,false] rfl rfl (any_of HT_.out (by kernel_rfl)) (fun _ _ _ h=>h) (Or.inl ⟨by rfl,?_⟩) ?_ ?_;rotate_left
                            · intro w';go_simp
                              with_reducible rfl
                            rotate_left
                            · simp only [Act.put,List.setIfInBounds_toArray,List.set_cons_zero,List.set_cons_succ,i64_w,i32_w];rfl
                            refine pure_ (i:=3) (N:=some 52) (v:=?_) (a':=?_) #[true,true,true,true,false,false,false,false,false,false,false,false,false,false,false] rfl rfl (any_of HT_.out (by kernel_rfl)) (fun _ _ _ h=>h) (Or.inl ⟨by rfl,?_⟩) ?_ ?_;rotate_left
                            · intro w';go_simp
                              with_reducible rfl
                            rotate_left
                            · simp only [Act.put,List.setIfInBounds_toArray,List.set_cons_zero,List.set_cons_succ,i64_w,i32_w];rfl
                            refine pure_ (i:=4) (N:=some 53) (v:=?_) (a':=?_) #[true,true,true,true,true,false,false,false,false,false,false,false,false,false,false] rfl rfl (any_of HT_.out (by kernel_rfl)) (fun _ _ _ h=>h) (Or.inl ⟨by rfl,?_⟩) ?_ ?_;rotate_left
                            · intro w';go_simp
                              with_reducible rfl
                            rotate_left
                            · simp only [Act.put,List.setIfInBounds_toArray,List.set_cons_zero,List.set_cons_succ,i64_w,i32_w];rfl
                            refine pure_ (i:=5) (N:=some 54) (v:=?_) (a':=?_) #[true,true,true,true,true,true,false,false,false,false,false,false,false,false,false] rfl rfl (any_of HT_.out (by kernel_rfl)) (fun _ _ _ h=>h) (Or.inl ⟨by rfl,?_⟩) ?_ ?_;rotate_left
                            · intro w';go_simp
                              with_reducible rfl
                            rotate_left
                            · simp only [Act.put,List.setIfInBounds_toArray,List.set_cons_zero,List.set_cons_succ,i64_w,i32_w];rfl
                            refine pure_ (i:=6) (N:=some 55) (v:=?_) (a':=?_) #[true,true,true,true,true,true,true,false,false,false,false,false,false,false,false] rfl rfl (any_of HT_.out (by kernel_rfl)) (fun _ _ _ h=>h) (Or.inl ⟨by rfl,?_⟩) ?_ ?_;rotate_left
                            · intro w';go_simp
                              with_reducible rfl
                            rotate_left
                            · simp only [Act.put,List.setIfInBounds_toArray,List.set_cons_zero,List.set_cons_succ,i64_w,i32_w];rfl
                            refine pure_ (i:=8) (N:=some 57) (v:=?_) (a':=?_) #[true,true,true,true,true,true,true,false,true,false,false,false,false,false,false] rfl rfl (any_of HT_.out (by kernel_rfl)) (fun _ _ _ h=>h) (Or.inl ⟨by rfl,?_⟩) ?_ ?_;rotate_left
                            · intro w';go_simp
                              with_reducible rfl
                            rotate_left
                            · simp only [Act.put,List.setIfInBounds_toArray,List.set_cons_zero,List.set_cons_succ,i64_w,i32_w];rfl
                            refine pure_ (i:=9) (N:=some 58) (v:=?_) (a':=?_) #[true,true,true,true,true,true,true,false,true,true,false,false,false,false,false] rfl rfl (any_of HT_.out (by kernel_rfl)) (fun _ _ _ h=>h) (Or.inl ⟨by rfl,?_⟩) ?_ ?_;rotate_left
                            · intro w';go_simp
                              with_reducible rfl
                            rotate_left
                            · simp only [Act.put,List.setIfInBounds_toArray,List.set_cons_zero,List.set_cons_succ,i64_w,i32_w];rfl
                            refine pure_ (i:=10) (N:=some 59) (v:=?_) (a':=?_) #[true,true,true,true,true,true,true,false,true,true,true,false,false,false,false] rfl rfl (any_of HT_.out (by kernel_rfl)) (fun _ _ _ h=>h) (Or.inl ⟨by rfl,?_⟩) ?_ ?_;rotate_left
                            · intro w';go_simp
                              with_reducible rfl
                            rotate_left
                            · simp only [Act.put,List.setIfInBounds_toArray,List.set_cons_zero,List.set_cons_succ,i64_w,i32_w];rfl
                            refine pure_ (i:=11) (N:=some 60) (v:=?_) (a':=?_) #[true,true,true,true,true,true,true,false,true,true,true,true,false,false,false] rfl rfl (any_of HT_.out (by kernel_rfl)) (fun _ _ _ h=>h) (Or.inl ⟨by rfl,?_⟩) ?_ ?_;rotate_left
                            · intro w';go_simp
                              with_reducible rfl
                            rotate_left
                            · simp only [Act.put,List.setIfInBounds_toArray,List.set_cons_zero,List.set_cons_succ,i64_w,i32_w];rfl
                            refine take_ (i:=7) (N:=some 56) (v:=?_) (a':=?_) #[true,true,true,true,true,true,true,true,true,true,true,true,false,false,false] rfl rfl (take_ofW HT_.out HW_.out (by kernel_rfl)) (fun _ _ _ h=>h) (Or.inl ⟨by rfl,?_⟩) hHeld ?_ ?_;rotate_left
                            · rintro w' ⟨s0,s1,s2,s3,s4⟩;go_simp
                              with_reducible rfl
                            rotate_left
                            · simp only [Act.put,List.setIfInBounds_toArray,List.set_cons_zero,List.set_cons_succ,i64_w,i32_w];rfl
                            refine take_ (i:=12) (N:=some 61) (v:=?_) (a':=?_) #[true,true,true,true,true,true,true,true,true,true,true,true,true,false,false] rfl rfl (take_ofW HT_.out HW_.out (by kernel_rfl)) (fun _ _ _ h=>h) (Or.inl ⟨by rfl,?_⟩) hHeld ?_ ?_;rotate_left
                            · rintro w' ⟨s0,s1,s2,s3,s4⟩;go_simp
                              with_reducible rfl
                            rotate_left
                            · simp only [Act.put,List.setIfInBounds_toArray,List.set_cons_zero,List.set_cons_succ,i64_w,i32_w];rfl
                            refine pure_ (i:=13) (N:=some 62) (v:=?_) (a':=?_) #[true,true,true,true,true,true,true,true,true,true,true,true,true,true,false] rfl rfl (any_of HT_.out (by kernel_rfl)) (fun _ _ _ h=>h) (Or.inl ⟨by rfl,?_⟩) ?_ ?_;rotate_left
                            · intro w';go_simp
                              with_reducible rfl
                            rotate_left
                            · simp only [Act.put,List.setIfInBounds_toArray,List.set_cons_zero,List.set_cons_succ,i64_w,i32_w];rfl
                            refine pure_ (i:=14) (N:=some 63) (v:=?_) (a':=?_) #[true,true,true,true,true,true,true,true,true,true,true,true,true,true,true] rfl rfl (any_of HT_.out (by kernel_rfl)) (fun _ _ _ h=>h) (Or.inl ⟨by rfl,?_⟩) ?_ ?_;rotate_left
                            · intro w';go_simp
                              with_reducible rfl
                            rotate_left
                            · simp only [Act.put,List.setIfInBounds_toArray,List.set_cons_zero,List.set_cons_succ,i64_w,i32_w];rfl
                            refine done_ (done_of HT_.out (by kernel_rfl)) ?_
                            try go_wp2
                            go_roundg k2
                            case measure=>have:=HK1.out;have:=HK2.out;omega
                            case rel=>exact ⟨(x6_1),(wrap64 (x7_1+1)),(by first|rfl|(simp;done)|(simp [*];done)),H',⟨by have:=HK1.out;have:=HK2.out;omega⟩,⟨by (with_reducible repeat (first|apply Kd.R_alloc|apply Kd.R_drewN|apply Kd.R_drew));exact HO_6.out⟩,⟨by repeat (first|(with_reducible first|exact HB.out|apply below_alloc|apply pw_below_drewN|apply below_drew1)|exact HB.out)⟩⟩
                          · rw [if_neg c17] at H;have c17b0:((rdOf ByteArray.empty x6_1 (ji12)).toList==((rd_T40 l0 x7_1).f3).toList)=false:=beq_eq_false_iff_ne.mpr c17;have c17b1:((rdOf ByteArray.empty x6_1 (ji12)).toList != ((rd_T40 l0 x7_1).f3).toList)=true:=bne_iff_ne.mpr c17
                            obtain ⟨y254,hy254⟩: ∃y_:List ByteArray,y_=(([(rd_T40 l0 x7_1).f3]:List ByteArray)):=⟨_,rfl⟩
                            replace H:(if 0≤x8_2 then (if x8_2≤(x6_1.length:Int) then ((some (x6_1.drop (x8_2:Int).toNat:List ByteArray)).bind fun y257=>(if y254.length+y257.length<8796093022208 then ((some (y254++y257:List ByteArray)).bind fun y261=>((some (([]:List ByteArray):List ByteArray)).bind fun y264=>((some (x6_1.take (x8_2:Int).toNat:List ByteArray)).bind fun y267=>(if y264.length+y267.length<8796093022208 then ((some (y264++y267:List ByteArray)).bind fun y271=>(if y271.length+y261.length<8796093022208 then (mummerref04_Symbols.l0 k2 l0 (y271++y261) (wrap64 (x7_1+1))) else (none))) else (none))))) else (none))) else (none)) else (none))=some (r1,r2):=by first|(rw [hy254];with_reducible exact H)|(have H2_:=(Option.bind_some _ _).symm.trans H;rw [hy254];with_reducible exact H2_)|(have H2_:=(Option.bind_some _ _).symm.trans H;with_reducible exact H2_)|with_reducible exact H|(rw [hy254];exact H)|exact H
                            have Ny254:=Aside0.mk hy254;clear hy254;by_cases c20:0≤x8_2
                            · rw [if_pos c20] at H;have c20b0:=eq_true c20;have c20b1:decide (0≤x8_2)=true:=decide_eq_true c20;clear c20;by_cases c21:x8_2≤(x6_1.length:Int)
                              · rw [if_pos c21] at H;have c21b0:=eq_true c21;have c21b1:decide (x8_2≤(x6_1.length:Int))=true:=decide_eq_true c21;clear c21
                                obtain ⟨y257,hy257⟩: ∃y_:List ByteArray,y_=(x6_1.drop (x8_2:Int).toNat):=⟨_,rfl⟩
                                replace H:(if y254.length+y257.length<8796093022208 then ((some (y254++y257:List ByteArray)).bind fun y261=>((some (([]:List ByteArray):List ByteArray)).bind fun y264=>((some (x6_1.take (x8_2:Int).toNat:List ByteArray)).bind fun y267=>(if y264.length+y267.length<8796093022208 then ((some (y264++y267:List ByteArray)).bind fun y271=>(if y271.length+y261.length<8796093022208 then (mummerref04_Symbols.l0 k2 l0 (y271++y261) (wrap64 (x7_1+1))) else (none))) else (none))))) else (none))=some (r1,r2):=by first|(rw [hy257];with_reducible exact H)|(have H2_:=(Option.bind_some _ _).symm.trans H;rw [hy257];with_reducible exact H2_)|(have H2_:=(Option.bind_some _ _).symm.trans H;with_reducible exact H2_)|with_reducible exact H|(rw [hy257];exact H)|exact H
                                have Ny257:=Aside0.mk hy257;clear hy257;by_cases c22:y254.length+y257.length<8796093022208
                                · rw [if_pos c22] at H;have LMc22:=Aside0.mk c22;clear c22
                                  obtain ⟨y261,hy261⟩: ∃y_:List ByteArray,y_=(y254++y257):=⟨_,rfl⟩
                                  replace H:((some (([]:List ByteArray):List ByteArray)).bind fun y264=>((some (x6_1.take (x8_2:Int).toNat:List ByteArray)).bind fun y267=>(if y264.length+y267.length<8796093022208 then ((some (y264++y267:List ByteArray)).bind fun y271=>(if y271.length+y261.length<8796093022208 then (mummerref04_Symbols.l0 k2 l0 (y271++y261) (wrap64 (x7_1+1))) else (none))) else (none))))=some (r1,r2):=by first|(rw [hy261];with_reducible exact H)|(have H2_:=(Option.bind_some _ _).symm.trans H;rw [hy261];with_reducible exact H2_)|(have H2_:=(Option.bind_some _ _).symm.trans H;with_reducible exact H2_)|with_reducible exact H|(rw [hy261];exact H)|exact H
                                  have Ny261:=Aside0.mk hy261;clear hy261
                                  obtain ⟨y264,hy264⟩: ∃y_:List ByteArray,y_=(([]:List ByteArray)):=⟨_,rfl⟩
                                  replace H:((some (x6_1.take (x8_2:Int).toNat:List ByteArray)).bind fun y267=>(if y264.length+y267.length<8796093022208 then ((some (y264++y267:List ByteArray)).bind fun y271=>(if y271.length+y261.length<8796093022208 then (mummerref04_Symbols.l0 k2 l0 (y271++y261) (wrap64 (x7_1+1))) else (none))) else (none)))=some (r1,r2):=by first|(rw [hy264];with_reducible exact H)|(have H2_:=(Option.bind_some _ _).symm.trans H;rw [hy264];with_reducible exact H2_)|(have H2_:=(Option.bind_some _ _).symm.trans H;with_reducible exact H2_)|with_reducible exact H|(rw [hy264];exact H)|exact H
                                  have Ny264:=Aside0.mk hy264;clear hy264;have c23b0:=eq_true (of_decide_eq_true (by first|(with_reducible assumption)|assumption):0≤x8_2);have c24b0:=eq_true (of_decide_eq_true (by first|(with_reducible assumption)|assumption):x8_2≤(x6_1.length:Int))
                                  obtain ⟨y267,hy267⟩: ∃y_:List ByteArray,y_=(x6_1.take (x8_2:Int).toNat):=⟨_,rfl⟩
                                  replace H:(if y264.length+y267.length<8796093022208 then ((some (y264++y267:List ByteArray)).bind fun y271=>(if y271.length+y261.length<8796093022208 then (mummerref04_Symbols.l0 k2 l0 (y271++y261) (wrap64 (x7_1+1))) else (none))) else (none))=some (r1,r2):=by first|(rw [hy267];with_reducible exact H)|(have H2_:=(Option.bind_some _ _).symm.trans H;rw [hy267];with_reducible exact H2_)|(have H2_:=(Option.bind_some _ _).symm.trans H;with_reducible exact H2_)|with_reducible exact H|(rw [hy267];exact H)|exact H
                                  have Ny267:=Aside0.mk hy267;clear hy267;by_cases c25:y264.length+y267.length<8796093022208
                                  · rw [if_pos c25] at H;have LMc25:=Aside0.mk c25;clear c25
                                    obtain ⟨y271,hy271⟩: ∃y_:List ByteArray,y_=(y264++y267):=⟨_,rfl⟩
                                    replace H:(if y271.length+y261.length<8796093022208 then (mummerref04_Symbols.l0 k2 l0 (y271++y261) (wrap64 (x7_1+1))) else (none))=some (r1,r2):=by first|(rw [hy271];with_reducible exact H)|(have H2_:=(Option.bind_some _ _).symm.trans H;rw [hy271];with_reducible exact H2_)|(have H2_:=(Option.bind_some _ _).symm.trans H;with_reducible exact H2_)|with_reducible exact H|(rw [hy271];exact H)|exact H
                                    have Ny271:=Aside0.mk hy271;clear hy271;by_cases c26:y271.length+y261.length<8796093022208
                                    · rw [if_pos c26] at H;have LMc26:=Aside0.mk c26;clear c26
                                      obtain ⟨y274,hy274⟩: ∃y_:List ByteArray,y_=(y271++y261):=⟨_,rfl⟩
                                      replace H:(mummerref04_Symbols.l0 k2 l0 y274 (wrap64 (x7_1+1)))=some (r1,r2):=by first|(rw [hy274];with_reducible exact H)|(have H2_:=(Option.bind_some _ _).symm.trans H;rw [hy274];with_reducible exact H2_)|(have H2_:=(Option.bind_some _ _).symm.trans H;with_reducible exact H2_)|with_reducible exact H|(rw [hy274];exact H)|exact H
                                      have Ny274:=Aside0.mk hy274;clear hy274;have H':=Aside0.mk H;clear H
                                      try go_wp2
                                      have n0_:=Aside0.mk (Kd.R_drew HO_6.out);have n1_:=Aside0.mk (below_drew1 HB.out);clear HO_6 HB;have HO_6:=n0_;have HB:=n1_;clear n0_ n1_;have p249:0≤(x7_1:Int):=of_decide_eq_true (by first|(with_reducible assumption)|assumption);have q249:x7_1<(l0.length:Int):=of_decide_eq_true (by first|(with_reducible assumption)|assumption);obtain ⟨ad249,e249,hx249_0,hx249_1,hx249_2,hx249_3⟩:=at_T40 HR0.out x7_1 p249 q249;have hw249_3:=hx249_3;have hw249_2:=hx249_2;have hw249_1:=hx249_1;have hw249_0:=hx249_0
                                      obtain rfl:ad248=ad249:=(by injection e249)
                                      replace hx249_0:=(HB.out.cell (World.block_lt_of_cell? w _ hx249_0)).trans hx249_0;replace hx249_1:=(HB.out.cell (World.block_lt_of_cell? w _ hx249_1)).trans hx249_1;replace hx249_2:=(HB.out.cell (World.block_lt_of_cell? w _ hx249_2)).trans hx249_2;replace hx249_3:=(HB.out.cell (World.block_lt_of_cell? w _ hx249_3)).trans hx249_3;replace p249:=eq_true p249;replace q249:=eq_true q249;have p250:0≤((ji12):Int):=of_decide_eq_true (by first|(with_reducible assumption)|assumption);have q250:(ji12)<(x6_1.length:Int):=of_decide_eq_true (by first|(with_reducible assumption)|assumption);obtain ⟨ad250,e250,hx250_0⟩:=Kd.at_string (Kd.R_reads' HO_6.out).2.2 (ji12) p250 q250;cases e250;replace p250:=eq_true p250;replace q250:=eq_true q250;refine start_ (n:=15) (S:=fun w'=>w'.cell? (ad248.add ((x7_1).toNat*4))=some (.int .i64 ((rd_T40 l0 x7_1).f0))∧w'.cell? ⟨(ad248.add ((x7_1).toNat*4)).block,(ad248.add ((x7_1).toNat*4)).off+1,none⟩=some (.int .i64 ((rd_T40 l0 x7_1).f1))∧w'.cell? ⟨(ad248.add ((x7_1).toNat*4)).block,(ad248.add ((x7_1).toNat*4)).off+2,none⟩=some (.int .i64 ((rd_T40 l0 x7_1).f2))∧w'.cell? ⟨(ad248.add ((x7_1).toNat*4)).block,(ad248.add ((x7_1).toNat*4)).off+3,none⟩=some (.string ((rd_T40 l0 x7_1).f3))∧w'.cell? (ad250.add ((ji12)).toNat)=some (.string (rdOf ByteArray.empty x6_1 (ji12)))) (ds:=[]) #[false,false,false,false,false,false,false,false,false,false,false,false,false,false,false] (by kernel_rfl) rfl rfl ⟨((HB.out.cell (World.block_lt_of_cell? w _ hw249_0)).trans hw249_0),((HB.out.cell (World.block_lt_of_cell? w _ hw249_1)).trans hw249_1),((HB.out.cell (World.block_lt_of_cell? w _ hw249_2)).trans hw249_2),((HB.out.cell (World.block_lt_of_cell? w _ hw249_3)).trans hw249_3),hx250_0⟩ (fun hHeld=>?_);refine with_tabW mummerref04_Symbols.tab10 mummerref04_Symbols.bits10 (fun HT_ HW_=>?_);generalize wr.drew=w27 at HO_6 HB hx249_0 hx249_1 hx249_2 hx249_3 hx250_0 hHeld ⊢; refine pure_ (i:=0) (N:=some 32) (v:=?_) (a':=?_) #[true,false,false,false,false,false,false,false,false,false,false,false,false,false,false] rfl rfl (any_of HT_.out (by kernel_rfl)) (fun _ _ _ h=>h) (Or.inl ⟨by rfl,?_⟩) ?_ ?_;rotate_left
                                      · intro w';go_simp
                                        with_reducible rfl
                                      rotate_left
                                      · simp only [Act.put,List.setIfInBounds_toArray,List.set_cons_zero,List.set_cons_succ,i64_w,i32_w];rfl
                                      refine pure_ (i:=1) (N:=some 33) (v:=?_) (a':=?_) #[true,true,false,false,false,false,false,false,false,false,false,false,false,false,false] rfl rfl (any_of HT_.out (by kernel_rfl)) (fun _ _ _ h=>h) (Or.inl ⟨by rfl,?_⟩) ?_ ?_;rotate_left
                                      · intro w';go_simp
                                        with_reducible rfl
                                      rotate_left
                                      · simp only [Act.put,List.setIfInBounds_toArray,List.set_cons_zero,List.set_cons_succ,i64_w,i32_w];rfl
                                      refine pure_ (i:=2) (N:=some 34) (v:=?_) (a':=?_) #[true,true,true,false,false,false,false,false,false,false,false,false,false,false,false] rfl rfl (any_of HT_.out (by kernel_rfl)) (fun _ _ _ h=>h) (Or.inl ⟨by rfl,?_⟩) ?_ ?_;rotate_left
                                      · intro w';go_simp
                                        with_reducible rfl
                                      rotate_left
                                      · simp only [Act.put,List.setIfInBounds_toArray,List.set_cons_zero,List.set_cons_succ,i64_w,i32_w];rfl
                                      refine pure_ (i:=3) (N:=some 35) (v:=?_) (a':=?_) #[true,true,true,true,false,false,false,false,false,false,false,false,false,false,false] rfl rfl (any_of HT_.out (by kernel_rfl)) (fun _ _ _ h=>h) (Or.inl ⟨by rfl,?_⟩) ?_ ?_;rotate_left
                                      · intro w';go_simp
                                        with_reducible rfl
                                      rotate_left
                                      · simp only [Act.put,List.setIfInBounds_toArray,List.set_cons_zero,List.set_cons_succ,i64_w,i32_w];rfl
                                      refine pure_ (i:=4) (N:=some 36) (v:=?_) (a':=?_) #[true,true,true,true,true,false,false,false,false,false,false,false,false,false,false] rfl rfl (any_of HT_.out (by kernel_rfl)) (fun _ _ _ h=>h) (Or.inl ⟨by rfl,?_⟩) ?_ ?_;rotate_left
                                      · intro w';go_simp
                                        with_reducible rfl
                                      rotate_left
                                      · simp only [Act.put,List.setIfInBounds_toArray,List.set_cons_zero,List.set_cons_succ,i64_w,i32_w];rfl
                                      refine pure_ (i:=5) (N:=some 37) (v:=?_) (a':=?_) #[true,true,true,true,true,true,false,false,false,false,false,false,false,false,false] rfl rfl (any_of HT_.out (by kernel_rfl)) (fun _ _ _ h=>h) (Or.inl ⟨by rfl,?_⟩) ?_ ?_;rotate_left
                                      · intro w';go_simp
                                        with_reducible rfl
                                      rotate_left
                                      · simp only [Act.put,List.setIfInBounds_toArray,List.set_cons_zero,List.set_cons_succ,i64_w,i32_w];rfl
                                      refine pure_ (i:=6) (N:=some 38) (v:=?_) (a':=?_) #[true,true,true,true,true,true,true,false,false,false,false,false,false,false,false] rfl rfl (any_of HT_.out (by kernel_rfl)) (fun _ _ _ h=>h) (Or.inl ⟨by rfl,?_⟩) ?_ ?_;rotate_left
                                      · intro w';go_simp
                                        with_reducible rfl
                                      rotate_left
                                      · simp only [Act.put,List.setIfInBounds_toArray,List.set_cons_zero,List.set_cons_succ,i64_w,i32_w];rfl
                                      refine pure_ (i:=8) (N:=some 40) (v:=?_) (a':=?_) #[true,true,true,true,true,true,true,false,true,false,false,false,false,false,false] rfl rfl (any_of HT_.out (by kernel_rfl)) (fun _ _ _ h=>h) (Or.inl ⟨by rfl,?_⟩) ?_ ?_;rotate_left
                                      · intro w';go_simp
                                        with_reducible rfl
                                      rotate_left
                                      · simp only [Act.put,List.setIfInBounds_toArray,List.set_cons_zero,List.set_cons_succ,i64_w,i32_w];rfl
                                      refine pure_ (i:=9) (N:=some 41) (v:=?_) (a':=?_) #[true,true,true,true,true,true,true,false,true,true,false,false,false,false,false] rfl rfl (any_of HT_.out (by kernel_rfl)) (fun _ _ _ h=>h) (Or.inl ⟨by rfl,?_⟩) ?_ ?_;rotate_left
                                      · intro w';go_simp
                                        with_reducible rfl
                                      rotate_left
                                      · simp only [Act.put,List.setIfInBounds_toArray,List.set_cons_zero,List.set_cons_succ,i64_w,i32_w];rfl
                                      refine pure_ (i:=10) (N:=some 42) (v:=?_) (a':=?_) #[true,true,true,true,true,true,true,false,true,true,true,false,false,false,false] rfl rfl (any_of HT_.out (by kernel_rfl)) (fun _ _ _ h=>h) (Or.inl ⟨by rfl,?_⟩) ?_ ?_;rotate_left
                                      · intro w';go_simp
                                        with_reducible rfl
                                      rotate_left
                                      · simp only [Act.put,List.setIfInBounds_toArray,List.set_cons_zero,List.set_cons_succ,i64_w,i32_w];rfl
                                      refine pure_ (i:=11) (N:=some 43) (v:=?_) (a':=?_) #[true,true,true,true,true,true,true,false,true,true,true,true,false,false,false] rfl rfl (any_of HT_.out (by kernel_rfl)) (fun _ _ _ h=>h) (Or.inl ⟨by rfl,?_⟩) ?_ ?_;rotate_left
                                      · intro w';go_simp
                                        with_reducible rfl
                                      rotate_left
                                      · simp only [Act.put,List.setIfInBounds_toArray,List.set_cons_zero,List.set_cons_succ,i64_w,i32_w];rfl
                                      refine take_ (i:=7) (N:=some 39) (v:=?_) (a':=?_) #[true,true,true,true,true,true,true,true,true,true,true,true,false,false,false] rfl rfl (take_ofW HT_.out HW_.out (by kernel_rfl)) (fun _ _ _ h=>h) (Or.inl ⟨by rfl,?_⟩) hHeld ?_ ?_;rotate_left
                                      · rintro w' ⟨s0,s1,s2,s3,s4⟩;go_simp
                                        with_reducible rfl
                                      rotate_left
                                      · simp only [Act.put,List.setIfInBounds_toArray,List.set_cons_zero,List.set_cons_succ,i64_w,i32_w];rfl
                                      refine take_ (i:=12) (N:=some 44) (v:=?_) (a':=?_) #[true,true,true,true,true,true,true,true,true,true,true,true,true,false,false] rfl rfl (take_ofW HT_.out HW_.out (by kernel_rfl)) (fun _ _ _ h=>h) (Or.inl ⟨by rfl,?_⟩) hHeld ?_ ?_;rotate_left
                                      · rintro w' ⟨s0,s1,s2,s3,s4⟩;go_simp
                                        with_reducible rfl
                                      rotate_left
                                      · simp only [Act.put,List.setIfInBounds_toArray,List.set_cons_zero,List.set_cons_succ,i64_w,i32_w];rfl
                                      refine pure_ (i:=13) (N:=some 45) (v:=?_) (a':=?_) #[true,true,true,true,true,true,true,true,true,true,true,true,true,true,false] rfl rfl (any_of HT_.out (by kernel_rfl)) (fun _ _ _ h=>h) (Or.inl ⟨by rfl,?_⟩) ?_ ?_;rotate_left
                                      · intro w';go_simp
                                        with_reducible rfl
                                      rotate_left
                                      · simp only [Act.put,List.setIfInBounds_toArray,List.set_cons_zero,List.set_cons_succ,i64_w,i32_w];rfl
                                      refine pure_ (i:=14) (N:=some 46) (v:=?_) (a':=?_) #[true,true,true,true,true,true,true,true,true,true,true,true,true,true,true] rfl rfl (any_of HT_.out (by kernel_rfl)) (fun _ _ _ h=>h) (Or.inl ⟨by rfl,?_⟩) ?_ ?_;rotate_left
                                      · intro w';go_simp
                                        with_reducible rfl
                                      rotate_left
                                      · simp only [Act.put,List.setIfInBounds_toArray,List.set_cons_zero,List.set_cons_succ,i64_w,i32_w];rfl
                                      refine done_ (done_of HT_.out (by kernel_rfl)) ?_
                                      try go_wp2
                                      have n0_:=Aside0.mk (Kd.R_drew HO_6.out);have n1_:=Aside0.mk (below_drew1 HB.out);clear HO_6 HB;have HO_6:=n0_;have HB:=n1_;clear n0_ n1_;have p251:0≤((ji12):Int):=of_decide_eq_true (by first|(with_reducible assumption)|assumption);have q251:(ji12)<(x6_1.length:Int):=of_decide_eq_true (by first|(with_reducible assumption)|assumption);obtain ⟨ad251,e251,hx251_0⟩:=Kd.at_string (Kd.R_reads' HO_6.out).2.2 (ji12) p251 q251
                                      obtain rfl:ad250=ad251:=(by injection e251)
                                      replace p251:=eq_true p251;replace q251:=eq_true q251;have p252:0≤(x7_1:Int):=of_decide_eq_true (by first|(with_reducible assumption)|assumption);have q252:x7_1<(l0.length:Int):=of_decide_eq_true (by first|(with_reducible assumption)|assumption);obtain ⟨ad252,e252,hx252_0,hx252_1,hx252_2,hx252_3⟩:=at_T40 HR0.out x7_1 p252 q252;have hw252_3:=hx252_3;have hw252_2:=hx252_2;have hw252_1:=hx252_1;have hw252_0:=hx252_0
                                      obtain rfl:ad248=ad252:=(by injection e252)
                                      replace hx252_0:=(HB.out.cell (World.block_lt_of_cell? w _ hx252_0)).trans hx252_0;replace hx252_1:=(HB.out.cell (World.block_lt_of_cell? w _ hx252_1)).trans hx252_1;replace hx252_2:=(HB.out.cell (World.block_lt_of_cell? w _ hx252_2)).trans hx252_2;replace hx252_3:=(HB.out.cell (World.block_lt_of_cell? w _ hx252_3)).trans hx252_3;replace p252:=eq_true p252;replace q252:=eq_true q252;refine start_ (n:=15) (S:=fun w'=>w'.cell? (ad250.add ((ji12)).toNat)=some (.string (rdOf ByteArray.empty x6_1 (ji12)))∧w'.cell? (ad248.add ((x7_1).toNat*4))=some (.int .i64 ((rd_T40 l0 x7_1).f0))∧w'.cell? ⟨(ad248.add ((x7_1).toNat*4)).block,(ad248.add ((x7_1).toNat*4)).off+1,none⟩=some (.int .i64 ((rd_T40 l0 x7_1).f1))∧w'.cell? ⟨(ad248.add ((x7_1).toNat*4)).block,(ad248.add ((x7_1).toNat*4)).off+2,none⟩=some (.int .i64 ((rd_T40 l0 x7_1).f2))∧w'.cell? ⟨(ad248.add ((x7_1).toNat*4)).block,(ad248.add ((x7_1).toNat*4)).off+3,none⟩=some (.string ((rd_T40 l0 x7_1).f3))) (ds:=[]) #[false,false,false,false,false,false,false,false,false,false,false,false,false,false,false] (by kernel_rfl) rfl rfl ⟨hx251_0,((HB.out.cell (World.block_lt_of_cell? w _ hw252_0)).trans hw252_0),((HB.out.cell (World.block_lt_of_cell? w _ hw252_1)).trans hw252_1),((HB.out.cell (World.block_lt_of_cell? w _ hw252_2)).trans hw252_2),((HB.out.cell (World.block_lt_of_cell? w _ hw252_3)).trans hw252_3)⟩ (fun hHeld=>?_);refine with_tabW mummerref04_Symbols.tab12 mummerref04_Symbols.bits12 (fun HT_ HW_=>?_);generalize w27.drew=w28 at HO_6 HB hx251_0 hx252_0 hx252_1 hx252_2 hx252_3 hHeld ⊢; refine pure_ (i:=0) (N:=some 49) (v:=?_) (a':=?_) #[true,false,false,false,false,false,false,false,false,false,false,false,false,false,false] rfl rfl (any_of HT_.out (by kernel_rfl)) (fun _ _ _ h=>h) (Or.inl ⟨by rfl,?_⟩) ?_ ?_;rotate_left
                                      · intro w';go_simp
                                        with_reducible rfl
                                      rotate_left
                                      · simp only [Act.put,List.setIfInBounds_toArray,List.set_cons_zero,List.set_cons_succ,i64_w,i32_w];rfl
                                      refine pure_ (i:=1) (N:=some 50) (v:=?_) (a':=?_) #[true,true,false,false,false,false,false,false,false,false,false,false,false,false,false] rfl rfl (any_of HT_.out (by kernel_rfl)) (fun _ _ _ h=>h) (Or.inl ⟨by rfl,?_⟩) ?_ ?_;rotate_left
                                      · intro w';go_simp
                                        with_reducible rfl
                                      rotate_left
                                      · simp only [Act.put,List.setIfInBounds_toArray,List.set_cons_zero,List.set_cons_succ,i64_w,i32_w];rfl
                                      refine pure_ (i:=2) (N:=some 51) (v:=?_) (a':=?_) #[true,true,true,false,false,false,false,false,false,false,false,false,false,false,false] rfl rfl (any_of HT_.out (by kernel_rfl)) (fun _ _ _ h=>h) (Or.inl ⟨by rfl,?_⟩) ?_ ?_;rotate_left
                                      · intro w';go_simp
                                        with_reducible rfl
                                      rotate_left
                                      · simp only [Act.put,List.setIfInBounds_toArray,List.set_cons_zero,List.set_cons_succ,i64_w,i32_w];rfl
                                      refine pure_ (i:=3) (N:=some 52) (v:=?_) (a':=?_) #[true,true,true,true,false,false,false,false,false,false,false,false,false,false,false] rfl rfl (any_of HT_.out (by kernel_rfl)) (fun _ _ _ h=>h) (Or.inl ⟨by rfl,?_⟩) ?_ ?_;rotate_left
                                      · intro w';go_simp
                                        with_reducible rfl
                                      rotate_left
                                      · simp only [Act.put,List.setIfInBounds_toArray,List.set_cons_zero,List.set_cons_succ,i64_w,i32_w];rfl
                                      refine pure_ (i:=4) (N:=some 53) (v:=?_) (a':=?_) #[true,true,true,true,true,false,false,false,false,false,false,false,false,false,false] rfl rfl (any_of HT_.out (by kernel_rfl)) (fun _ _ _ h=>h) (Or.inl ⟨by rfl,?_⟩) ?_ ?_;rotate_left
                                      · intro w';go_simp
                                        with_reducible rfl
                                      rotate_left
                                      · simp only [Act.put,List.setIfInBounds_toArray,List.set_cons_zero,List.set_cons_succ,i64_w,i32_w];rfl
                                      refine pure_ (i:=5) (N:=some 54) (v:=?_) (a':=?_) #[true,true,true,true,true,true,false,false,false,false,false,false,false,false,false] rfl rfl (any_of HT_.out (by kernel_rfl)) (fun _ _ _ h=>h) (Or.inl ⟨by rfl,?_⟩) ?_ ?_;rotate_left
                                      · intro w';go_simp
                                        with_reducible rfl
                                      rotate_left
                                      · simp only [Act.put,List.setIfInBounds_toArray,List.set_cons_zero,List.set_cons_succ,i64_w,i32_w];rfl
                                      refine pure_ (i:=6) (N:=some 55) (v:=?_) (a':=?_) #[true,true,true,true,true,true,true,false,false,false,false,false,false,false,false] rfl rfl (any_of HT_.out (by kernel_rfl)) (fun _ _ _ h=>h) (Or.inl ⟨by rfl,?_⟩) ?_ ?_;rotate_left
                                      · intro w';go_simp
                                        with_reducible rfl
                                      rotate_left
                                      · simp only [Act.put,List.setIfInBounds_toArray,List.set_cons_zero,List.set_cons_succ,i64_w,i32_w];rfl
                                      refine pure_ (i:=8) (N:=some 57) (v:=?_) (a':=?_) #[true,true,true,true,true,true,true,false,true,false,false,false,false,false,false] rfl rfl (any_of HT_.out (by kernel_rfl)) (fun _ _ _ h=>h) (Or.inl ⟨by rfl,?_⟩) ?_ ?_;rotate_left
                                      · intro w';go_simp
                                        with_reducible rfl
                                      rotate_left
                                      · simp only [Act.put,List.setIfInBounds_toArray,List.set_cons_zero,List.set_cons_succ,i64_w,i32_w];rfl
                                      refine pure_ (i:=9) (N:=some 58) (v:=?_) (a':=?_) #[true,true,true,true,true,true,true,false,true,true,false,false,false,false,false] rfl rfl (any_of HT_.out (by kernel_rfl)) (fun _ _ _ h=>h) (Or.inl ⟨by rfl,?_⟩) ?_ ?_;rotate_left
                                      · intro w';go_simp
                                        with_reducible rfl
                                      rotate_left
                                      · simp only [Act.put,List.setIfInBounds_toArray,List.set_cons_zero,List.set_cons_succ,i64_w,i32_w];rfl
                                      refine pure_ (i:=10) (N:=some 59) (v:=?_) (a':=?_) #[true,true,true,true,true,true,true,false,true,true,true,false,false,false,false] rfl rfl (any_of HT_.out (by kernel_rfl)) (fun _ _ _ h=>h) (Or.inl ⟨by rfl,?_⟩) ?_ ?_;rotate_left
                                      · intro w';go_simp
                                        with_reducible rfl
                                      rotate_left
                                      · simp only [Act.put,List.setIfInBounds_toArray,List.set_cons_zero,List.set_cons_succ,i64_w,i32_w];rfl
                                      refine pure_ (i:=11) (N:=some 60) (v:=?_) (a':=?_) #[true,true,true,true,true,true,true,false,true,true,true,true,false,false,false] rfl rfl (any_of HT_.out (by kernel_rfl)) (fun _ _ _ h=>h) (Or.inl ⟨by rfl,?_⟩) ?_ ?_;rotate_left
                                      · intro w';go_simp
                                        with_reducible rfl
                                      rotate_left
                                      · simp only [Act.put,List.setIfInBounds_toArray,List.set_cons_zero,List.set_cons_succ,i64_w,i32_w];rfl
                                      refine take_ (i:=7) (N:=some 56) (v:=?_) (a':=?_) #[true,true,true,true,true,true,true,true,true,true,true,true,false,false,false] rfl rfl (take_ofW HT_.out HW_.out (by kernel_rfl)) (fun _ _ _ h=>h) (Or.inl ⟨by rfl,?_⟩) hHeld ?_ ?_;rotate_left
                                      · rintro w' ⟨s0,s1,s2,s3,s4⟩;go_simp
                                        with_reducible rfl
                                      rotate_left
                                      · simp only [Act.put,List.setIfInBounds_toArray,List.set_cons_zero,List.set_cons_succ,i64_w,i32_w];rfl
                                      refine take_ (i:=12) (N:=some 61) (v:=?_) (a':=?_) #[true,true,true,true,true,true,true,true,true,true,true,true,true,false,false] rfl rfl (take_ofW HT_.out HW_.out (by kernel_rfl)) (fun _ _ _ h=>h) (Or.inl ⟨by rfl,?_⟩) hHeld ?_ ?_;rotate_left
                                      · rintro w' ⟨s0,s1,s2,s3,s4⟩;go_simp
                                        with_reducible rfl
                                      rotate_left
                                      · simp only [Act.put,List.setIfInBounds_toArray,List.set_cons_zero,List.set_cons_succ,i64_w,i32_w];rfl
                                      refine pure_ (i:=13) (N:=some 62) (v:=?_) (a':=?_) #[true,true,true,true,true,true,true,true,true,true,true,true,true,true,false] rfl rfl (any_of HT_.out (by kernel_rfl)) (fun _ _ _ h=>h) (Or.inl ⟨by rfl,?_⟩) ?_ ?_;rotate_left
                                      · intro w';go_simp
                                        with_reducible rfl
                                      rotate_left
                                      · simp only [Act.put,List.setIfInBounds_toArray,List.set_cons_zero,List.set_cons_succ,i64_w,i32_w];rfl
                                      refine pure_ (i:=14) (N:=some 63) (v:=?_) (a':=?_) #[true,true,true,true,true,true,true,true,true,true,true,true,true,true,true] rfl rfl (any_of HT_.out (by kernel_rfl)) (fun _ _ _ h=>h) (Or.inl ⟨by rfl,?_⟩) ?_ ?_;rotate_left
                                      · intro w';go_simp
                                        with_reducible rfl
                                      rotate_left
                                      · simp only [Act.put,List.setIfInBounds_toArray,List.set_cons_zero,List.set_cons_succ,i64_w,i32_w];rfl
                                      refine done_ (done_of HT_.out (by kernel_rfl)) ?_
                                      try go_wp2
                                      have n0_:=Aside0.mk (Kd.R_drew HO_6.out);have n1_:=Aside0.mk (below_drew1 HB.out);clear HO_6 HB;have HO_6:=n0_;have HB:=n1_;clear n0_ n1_;have p253:0≤(x7_1:Int):=of_decide_eq_true (by first|(with_reducible assumption)|assumption);have q253:x7_1<(l0.length:Int):=of_decide_eq_true (by first|(with_reducible assumption)|assumption);obtain ⟨ad253,e253,hx253_0,hx253_1,hx253_2,hx253_3⟩:=at_T40 HR0.out x7_1 p253 q253;have hw253_3:=hx253_3;have hw253_2:=hx253_2;have hw253_1:=hx253_1;have hw253_0:=hx253_0
                                      obtain rfl:ad248=ad253:=(by injection e253)
                                      replace hx253_0:=(HB.out.cell (World.block_lt_of_cell? w _ hx253_0)).trans hx253_0;replace hx253_1:=(HB.out.cell (World.block_lt_of_cell? w _ hx253_1)).trans hx253_1;replace hx253_2:=(HB.out.cell (World.block_lt_of_cell? w _ hx253_2)).trans hx253_2;replace hx253_3:=(HB.out.cell (World.block_lt_of_cell? w _ hx253_3)).trans hx253_3;replace p253:=eq_true p253;replace q253:=eq_true q253;have q30:(x8_2:Int)≤((x6_1.length:Int):Int):=of_decide_eq_true (by first|(with_reducible assumption)|assumption);obtain ⟨i030,hi030,_,hsz30,_⟩:=info_parts info9;have hroom30:x6_1.length≤co8:=(Kd.R_reads' HO_6.out).2.1;have hC30:Kd.C Kd.string _ (some ad250) x6_1.length x6_1:=(Kd.R_reads' HO_6.out).2.2;have q030:(0:Int)≤(x8_2:Int):=of_decide_eq_true (by first|(with_reducible assumption)|assumption);have hcut30:=cut_from (P:=Tryz.prog) 23 9 .i64 Tryz.underlying23 hi030 1 hsz30 (some ad250) x6_1.length co8 x8_2 q030 q30;have hr30:=Kd.C_drop (m:=(x8_2:Int).toNat) (c:=co8) hC30 (by omega) hroom30
                                      obtain ⟨A30,hA30⟩: ∃A1,A1=(if co8=(x8_2:Int).toNat then (some ad250) else ((some ad250):Option Addr).map (·.add ((x8_2:Int).toNat*1))):=⟨_,rfl⟩
                                      obtain ⟨c30,hc30⟩: ∃c1,c1=co8-(x8_2:Int).toNat:=⟨_,rfl⟩
                                      have hy30:y257.length=x6_1.length-(x8_2:Int).toNat:=(by rw [Ny257.out,List.length_drop]<;>omega)
                                      rw [show (x6_1).drop (x8_2:Int).toNat=y257 from Ny257.out.symm] at hr30
                                      replace hr30:Kd.C Kd.string _ A30 y257.length y257:=(by rw [hA30];exact hr30)
                                      rw [←hy30,←hA30,←hc30] at hcut30;have HR260:=Aside0.mk hr30;have HC260:=Aside0.mk (show y257.length≤c30 from by rw [hy30,hc30];exact Nat.sub_le_sub_right hroom30 _);clear hr30 hC30 hroom30 hi030 hsz30 hc30;have KY30:=Aside0.mk hy30;have KA30:=Aside0.mk hA30;clear hy30 hA30;have KL30:=Aside0.mk (show (x8_2:Int).toNat≤x6_1.length from by omega);replace q30:=eq_true q30;refine start_ (n:=11) (S:=fun w'=>w'.cell? (ad248.add ((x7_1).toNat*4))=some (.int .i64 ((rd_T40 l0 x7_1).f0))∧w'.cell? ⟨(ad248.add ((x7_1).toNat*4)).block,(ad248.add ((x7_1).toNat*4)).off+1,none⟩=some (.int .i64 ((rd_T40 l0 x7_1).f1))∧w'.cell? ⟨(ad248.add ((x7_1).toNat*4)).block,(ad248.add ((x7_1).toNat*4)).off+2,none⟩=some (.int .i64 ((rd_T40 l0 x7_1).f2))∧w'.cell? ⟨(ad248.add ((x7_1).toNat*4)).block,(ad248.add ((x7_1).toNat*4)).off+3,none⟩=some (.string ((rd_T40 l0 x7_1).f3))) (ds:=[]) #[false,false,false,false,false,false,false,false,false,false,false] (by kernel_rfl) rfl rfl ⟨((HB.out.cell (World.block_lt_of_cell? w _ hw253_0)).trans hw253_0),((HB.out.cell (World.block_lt_of_cell? w _ hw253_1)).trans hw253_1),((HB.out.cell (World.block_lt_of_cell? w _ hw253_2)).trans hw253_2),((HB.out.cell (World.block_lt_of_cell? w _ hw253_3)).trans hw253_3)⟩ (fun hHeld=>?_);refine with_tabW mummerref04_Symbols.tab13 mummerref04_Symbols.bits13 (fun HT_ HW_=>?_);generalize w28.drew=w29 at HO_6 HB HR260 hx253_0 hx253_1 hx253_2 hx253_3 hHeld ⊢; refine pure_ (i:=0) (N:=some 64) (v:=?_) (a':=?_) #[true,false,false,false,false,false,false,false,false,false,false] rfl rfl (any_of HT_.out (by kernel_rfl)) (fun _ _ _ h=>h) (Or.inl ⟨by rfl,?_⟩) ?_ ?_;rotate_left
                                      · intro w';go_simp
                                        with_reducible rfl
                                      rotate_left
                                      · simp only [Act.put,List.setIfInBounds_toArray,List.set_cons_zero,List.set_cons_succ,i64_w,i32_w];rfl
                                      refine pure_ (i:=1) (N:=some 65) (v:=?_) (a':=?_) #[true,true,false,false,false,false,false,false,false,false,false] rfl rfl (any_of HT_.out (by kernel_rfl)) (fun _ _ _ h=>h) (Or.inl ⟨by rfl,?_⟩) ?_ ?_;rotate_left
                                      · intro w';go_simp
                                        with_reducible rfl
                                      rotate_left
                                      · simp only [Act.put,List.setIfInBounds_toArray,List.set_cons_zero,List.set_cons_succ,i64_w,i32_w];rfl
                                      refine pure_ (i:=2) (N:=some 66) (v:=?_) (a':=?_) #[true,true,true,false,false,false,false,false,false,false,false] rfl rfl (any_of HT_.out (by kernel_rfl)) (fun _ _ _ h=>h) (Or.inl ⟨by rfl,?_⟩) ?_ ?_;rotate_left
                                      · intro w';go_simp
                                        with_reducible rfl
                                      rotate_left
                                      · simp only [Act.put,List.setIfInBounds_toArray,List.set_cons_zero,List.set_cons_succ,i64_w,i32_w];rfl
                                      refine pure_ (i:=3) (N:=some 67) (v:=?_) (a':=?_) #[true,true,true,true,false,false,false,false,false,false,false] rfl rfl (any_of HT_.out (by kernel_rfl)) (fun _ _ _ h=>h) (Or.inl ⟨by rfl,?_⟩) ?_ ?_;rotate_left
                                      · intro w';go_simp
                                        with_reducible rfl
                                      rotate_left
                                      · simp only [Act.put,List.setIfInBounds_toArray,List.set_cons_zero,List.set_cons_succ,i64_w,i32_w];rfl
                                      refine pure_ (i:=6) (N:=some 70) (v:=?_) (a':=?_) #[true,true,true,true,false,false,true,false,false,false,false] rfl rfl (any_of HT_.out (by kernel_rfl)) (fun _ _ _ h=>h) (Or.inl ⟨by rfl,?_⟩) ?_ ?_;rotate_left
                                      · intro w';go_simp
                                        with_reducible rfl
                                      rotate_left
                                      · simp only [Act.put,List.setIfInBounds_toArray,List.set_cons_zero,List.set_cons_succ,i64_w,i32_w];rfl
                                      refine pure_ (i:=7) (N:=some 71) (v:=?_) (a':=?_) #[true,true,true,true,false,false,true,true,false,false,false] rfl rfl (any_of HT_.out (by kernel_rfl)) (fun _ _ _ h=>h) (Or.inl ⟨by rfl,?_⟩) ?_ ?_;rotate_left
                                      · intro w';go_simp
                                        with_reducible rfl
                                      rotate_left
                                      · simp only [Act.put,List.setIfInBounds_toArray,List.set_cons_zero,List.set_cons_succ,i64_w,i32_w];rfl
                                      refine pure_ (i:=8) (N:=some 72) (v:=?_) (a':=?_) #[true,true,true,true,false,false,true,true,true,false,false] rfl rfl (any_of HT_.out (by kernel_rfl)) (fun _ _ _ h=>h) (Or.inl ⟨by rfl,?_⟩) ?_ ?_;rotate_left
                                      · intro w';go_simp
                                        with_reducible rfl
                                      rotate_left
                                      · simp only [Act.put,List.setIfInBounds_toArray,List.set_cons_zero,List.set_cons_succ,i64_w,i32_w];rfl
                                      refine take_ (i:=4) (N:=some 68) (v:=?_) (a':=?_) #[true,true,true,true,true,false,true,true,true,false,false] rfl rfl (take_ofW HT_.out HW_.out (by kernel_rfl)) (fun _ _ _ h=>h) (Or.inl ⟨by rfl,?_⟩) hHeld ?_ ?_;rotate_left
                                      · rintro w' ⟨s0,s1,s2,s3⟩;go_simp
                                        with_reducible rfl
                                      rotate_left
                                      · simp only [Act.put,List.setIfInBounds_toArray,List.set_cons_zero,List.set_cons_succ,i64_w,i32_w];rfl
                                      refine one_ (i:=5) (N:=some 69) #[true,true,true,true,true,true,true,true,true,false,false] rfl rfl (one_of HT_.out (by kernel_rfl)) (by decide) (fun K hK=>?_);refine Kd.R_lit_step Kd.string _ 9 ?hg (N:=69) ?hd (xs:=([(rd_T40 l0 x7_1).f3]:List ByteArray)) (inner:=[.string ((rd_T40 l0 x7_1).f3)]) (ok:=fun _=>True) (okp:=fun _=>True) ?hr ?hp (fun _ hk=>hk) trivial (Below.refl _ _) (Nat.le_refl _) (by simp) ?_;(case hd=>rfl);(case hg=>rfl);(case hr=>first|(go_simp;done)|(go_simp;rfl));(case hp=>exact (Reps.one (show Kd.M Kd.string _ _ _ ((rd_T40 l0 x7_1).f3) [.string ((rd_T40 l0 x7_1).f3)] from rfl) (Reps.none _ _)));intro v255 w31 ho32 hb hg_ hnew_;clear hg_ hnew_
                                      (first|rw [←Ny254.out] at ho32|(simp only [Int.reduceToNat] at ho32;rw [←Ny254.out] at ho32))
                                      have n0_:=Aside0.mk (Kd.R_elder' (by (with_reducible repeat (first|apply Kd.R_alloc|apply Kd.R_drewN|apply Kd.R_drew));exact HO_6.out) (Kd.R_base ho32) hb);have n1_:=Aside0.mk (Kd.R_lower (Kd.R_new' ho32 (Kd.R_lt (by (with_reducible repeat (first|apply Kd.R_alloc|apply Kd.R_drewN|apply Kd.R_drew));exact HO_6.out))) (below_size (by repeat (first|(with_reducible first|exact HB.out|apply below_alloc|apply pw_below_drewN|apply below_drew1)|exact HB.out))));have n2_:=Aside0.mk (Kd.C_below (by repeat (first|(with_reducible exact HR260.out)|(with_reducible refine Kd.C_alloc ?_ _)|(with_reducible refine Kd.C_drewN ?_ _)|(with_reducible refine Kd.C_drew ?_)|exact HR260.out)) hb);have n3_:=Aside0.mk (below_step (by repeat (first|(with_reducible first|exact HB.out|apply below_alloc|apply pw_below_drewN|apply below_drew1)|exact HB.out)) hb);clear HO_6 HR260 HB;have HO_6:=n0_;have HO256:=n1_;have HR260:=n2_;have HB:=n3_;clear n0_ n1_ n2_ n3_ hb ho32;refine hK.out _ _ ⟨((HB.out.cell (World.block_lt_of_cell? w _ hw253_0)).trans hw253_0),((HB.out.cell (World.block_lt_of_cell? w _ hw253_1)).trans hw253_1),((HB.out.cell (World.block_lt_of_cell? w _ hw253_2)).trans hw253_2),((HB.out.cell (World.block_lt_of_cell? w _ hw253_3)).trans hw253_3)⟩ (fun hHeld=>?_);clear hK K;refine norm_ (a':=?_) ?_ ?_;rotate_left
                                      · show Act.put _ (some 69) _=_;simp only [Act.put,List.setIfInBounds_toArray,List.set_cons_zero,List.set_cons_succ,i64_w,i32_w];rfl
                                      refine one_ (i:=9) (N:=some 73) #[true,true,true,true,true,true,true,true,true,true,false] rfl rfl (one_of HT_.out (by kernel_rfl)) (by decide) (fun K hK=>?_);refine Kd.R_append_rows_step Kd.string (w0:=w) w.heap.size (by rfl) (.tmp 69) (.tmp 72) 23 9 (.string ⟨#[]⟩) 16 rfl Tryz.underlying23 info9 rfl (by decide) (by omega) v255 y254 y257 _ _ _ (fun k_=>some k_≠(.slice (some ad250) x6_1.length co8:Value).ownBlock) (fun _=>False) rfl rfl ?aO ?aR (fun _ _ h=>h) (fun _ h=>h.elim) ?aF ?aB ?aS ?aL ?_
                                      (case aR=>repeat (first|exact (by repeat (first|(with_reducible exact HR260.out)|(with_reducible refine Kd.C_alloc ?_ _)|(with_reducible refine Kd.C_drewN ?_ _)|(with_reducible refine Kd.C_drew ?_)|exact HR260.out))|(with_reducible refine Kd.C_alloc ?_ _)|(with_reducible refine Kd.C_drewN ?_ _)|(with_reducible refine Kd.C_drew ?_)))
                                      (case aB=>exact (by repeat (first|(with_reducible first|exact HB.out|apply below_alloc|apply pw_below_drewN|apply below_drew1)|exact HB.out)))
                                      (case aF=>exact (fun k_ hk=>Kd.fresh' (Kd.R_lt (by (with_reducible repeat (first|apply Kd.R_alloc|apply Kd.R_drewN|apply Kd.R_drew));exact HO_6.out)) k_ hk))
                                      (case aO=>exact (by (with_reducible repeat (first|apply Kd.R_alloc|apply Kd.R_drewN|apply Kd.R_drew));exact Kd.R_mono HO256.out (fun _ hk=>hk.2)))
                                      (case aS=>exact (below_size (by repeat (first|(with_reducible first|exact HB.out|apply below_alloc|apply pw_below_drewN|apply below_drew1)|exact HB.out))))
                                      (case aL=>have:=LMc22.out;omega)
                                      intro v262 w33 ho hb hg hat;rw [←Ny261.out] at ho;have n0_:=Aside0.mk (Kd.R_after (ok:=(fun _=>True)) (by (with_reducible repeat (first|apply Kd.R_alloc|apply Kd.R_drewN|apply Kd.R_drew));exact HO_6.out) hg hat);have n1_:=Aside0.mk (hb);have n2_:=Aside0.mk ((show Kd.C Kd.string w33 A30 y257.length y257 from by rw [Ny257.out,KA30.out];exact Kd.C_drop (m:=(x8_2:Int).toNat) (c:=co8) ((Kd.R_reads' (Kd.R_after (ok:=(fun _=>True)) (by (with_reducible repeat (first|apply Kd.R_alloc|apply Kd.R_drewN|apply Kd.R_drew));exact HO_6.out) hg hat)).2.2) KL30.out ((Kd.R_reads' (Kd.R_after (ok:=(fun _=>True)) (by (with_reducible repeat (first|apply Kd.R_alloc|apply Kd.R_drewN|apply Kd.R_drew));exact HO_6.out) hg hat)).2.1)));have n3_:=Aside0.mk (ho);clear HO_6 HB HR260 HO256;have HO_6:=n0_;have HB:=n1_;have HR260:=n2_;have HO263:=n3_;clear n0_ n1_ n2_ n3_ ho hb hg hat;refine hK.out _ _ ⟨((HB.out.cell (World.block_lt_of_cell? w _ hw253_0)).trans hw253_0),((HB.out.cell (World.block_lt_of_cell? w _ hw253_1)).trans hw253_1),((HB.out.cell (World.block_lt_of_cell? w _ hw253_2)).trans hw253_2),((HB.out.cell (World.block_lt_of_cell? w _ hw253_3)).trans hw253_3)⟩ (fun hHeld=>?_);clear hK K;refine norm_ (a':=?_) ?_ ?_;rotate_left
                                      · show Act.put _ (some 73) _=_;simp only [Act.put,List.setIfInBounds_toArray,List.set_cons_zero,List.set_cons_succ,i64_w,i32_w];rfl
                                      refine pure_ (i:=10) (N:=some 9) (v:=?_) (a':=?_) #[true,true,true,true,true,true,true,true,true,true,true] rfl rfl (any_of HT_.out (by kernel_rfl)) (fun _ _ _ h=>h) (Or.inl ⟨by rfl,?_⟩) ?_ ?_;rotate_left
                                      · intro w';go_simp
                                        with_reducible rfl
                                      rotate_left
                                      · simp only [Act.put,List.setIfInBounds_toArray,List.set_cons_zero,List.set_cons_succ,i64_w,i32_w];rfl
                                      refine done_ (done_of HT_.out (by kernel_rfl)) ?_
                                      try go_wp2_with (first|((with_reducible refine gate_dst (N:=74) rfl ?_);refine Kd.R_lit Kd.string _ 9 ?hg (N:=74) ?hd (xs:=([]:List ByteArray)) (inner:=[]) (ok:=fun _=>True) (okp:=fun _=>True) ?hr ?hp (fun _ hk=>hk) trivial (Below.refl _ _) (Nat.le_refl _) (by simp) ?_;(case hd=>rfl);(case hg=>rfl);(case hr=>first|(go_simp;done)|(go_simp;rfl));(case hp=>exact (Reps.none _ _));intro v265 w34 ho35 hb hg_ hnew_;clear hg_ hnew_;(first|rw [←Ny264.out] at ho35|(simp only [Int.reduceToNat] at ho35;rw [←Ny264.out] at ho35));have n0_:=Aside0.mk (Kd.R_elder' (by (with_reducible repeat (first|apply Kd.R_alloc|apply Kd.R_drewN|apply Kd.R_drew));exact HO_6.out) (Kd.R_base ho35) hb);have n1_:=Aside0.mk (Kd.R_elder' (by (with_reducible repeat (first|apply Kd.R_alloc|apply Kd.R_drewN|apply Kd.R_drew));exact HO263.out) (Kd.R_base ho35) hb);have n2_:=Aside0.mk (Kd.R_lower (Kd.R_new' (Kd.R_new' ho35 (Kd.R_lt (by (with_reducible repeat (first|apply Kd.R_alloc|apply Kd.R_drewN|apply Kd.R_drew));exact HO_6.out))) (Kd.R_lt (by (with_reducible repeat (first|apply Kd.R_alloc|apply Kd.R_drewN|apply Kd.R_drew));exact HO263.out))) (below_size (by repeat (first|(with_reducible first|exact HB.out|apply below_alloc|apply pw_below_drewN|apply below_drew1)|exact HB.out))));have n3_:=Aside0.mk (Kd.C_below (by repeat (first|(with_reducible exact HR260.out)|(with_reducible refine Kd.C_alloc ?_ _)|(with_reducible refine Kd.C_drewN ?_ _)|(with_reducible refine Kd.C_drew ?_)|exact HR260.out)) hb);have n4_:=Aside0.mk (below_step (by repeat (first|(with_reducible first|exact HB.out|apply below_alloc|apply pw_below_drewN|apply below_drew1)|exact HB.out)) hb);clear HO_6;clear HO263;clear HR260;clear HB;have HO_6:=n0_;have HO263:=n1_;have HO266:=n2_;have HR260:=n3_;have HB:=n4_;clear n0_ n1_ n2_ n3_ n4_;clear hb ho35;have q36:(x8_2:Int)≤((x6_1.length:Int):Int):=of_decide_eq_true (by first|(with_reducible assumption)|assumption);obtain ⟨i036,hi036,_,hsz36,_⟩:=info_parts info9;have hroom36:x6_1.length≤co8:=(Kd.R_reads' HO_6.out).2.1;have hC36:Kd.C Kd.string _ (some ad250) x6_1.length x6_1:=(Kd.R_reads' HO_6.out).2.2;have hcut36:=cut_to (P:=Tryz.prog) 23 9 .i64 Tryz.underlying23 hi036 (some ad250) x6_1.length co8 x8_2 (of_decide_eq_true (by first|(with_reducible assumption)|assumption)) q36 hroom36;have hr36:=Kd.C_take (m:=(x8_2:Int).toNat) hC36 (by omega);have hy36:y267.length=(x8_2:Int).toNat:=(by rw [Ny267.out,List.length_take];omega);rw [←Ny267.out] at hr36;rw [←hy36] at hcut36;have HR270:=Aside0.mk hr36;have HC270:=Aside0.mk (show y267.length≤co8 from by omega);clear hr36 hC36 hroom36 hi036 hsz36;have KY36:=Aside0.mk hy36;clear hy36;have KL36:=Aside0.mk (show (x8_2:Int).toNat≤x6_1.length from by omega);replace q36:=eq_true q36)|((with_reducible refine gate_builtin (b:= .append) (xs:= #[.tmp 74,.tmp 77]) rfl ?_);at_builtin;refine Kd.R_append_rows Kd.string (w0:=w) w.heap.size rfl (.tmp 74) (.tmp 77) 23 9 (.string ⟨#[]⟩) 16 rfl Tryz.underlying23 info9 rfl (by decide) (by omega) v265 y264 y267 _ _ _ (fun k_=>some k_≠(.slice (some ad250) x6_1.length co8:Value).ownBlock∧some k_≠(v262:Value).ownBlock) (fun _=>False) rfl rfl ?aO ?aR (fun _ _ h=>h) (fun _ h=>h.elim) ?aF ?aB ?aS ?aL ?_;(case aR=>repeat (first|exact (by repeat (first|(with_reducible exact HR270.out)|(with_reducible refine Kd.C_alloc ?_ _)|(with_reducible refine Kd.C_drewN ?_ _)|(with_reducible refine Kd.C_drew ?_)|exact HR270.out))|(with_reducible refine Kd.C_alloc ?_ _)|(with_reducible refine Kd.C_drewN ?_ _)|(with_reducible refine Kd.C_drew ?_)));(case aB=>exact (by repeat (first|(with_reducible first|exact HB.out|apply below_alloc|apply pw_below_drewN|apply below_drew1)|exact HB.out)));(case aF=>exact (fun k_ hk=>⟨Kd.fresh' (Kd.R_lt (by (with_reducible repeat (first|apply Kd.R_alloc|apply Kd.R_drewN|apply Kd.R_drew));exact HO_6.out)) k_ hk,Kd.fresh' (Kd.R_lt (by (with_reducible repeat (first|apply Kd.R_alloc|apply Kd.R_drewN|apply Kd.R_drew));exact HO263.out)) k_ hk⟩));(case aO=>exact (by (with_reducible repeat (first|apply Kd.R_alloc|apply Kd.R_drewN|apply Kd.R_drew));exact Kd.R_mono HO266.out (fun _ hk=>⟨hk.1.2,hk.2⟩)));(case aS=>exact (below_size (by repeat (first|(with_reducible first|exact HB.out|apply below_alloc|apply pw_below_drewN|apply below_drew1)|exact HB.out))));(case aL=>have:=LMc25.out;omega);intro v272 w37 ho hb hg hat;rw [←Ny271.out] at ho;have n0_:=Aside0.mk (Kd.R_after (ok:=(fun k_=>some k_≠(v262:Value).ownBlock)) (by (with_reducible repeat (first|apply Kd.R_alloc|apply Kd.R_drewN|apply Kd.R_drew));exact Kd.R_mono HO_6.out (fun _ hk=>⟨hk.1.2,hk.2⟩)) hg hat);have n1_:=Aside0.mk (Kd.R_after (ok:=(fun k_=>some k_≠(.slice (some ad250) x6_1.length co8:Value).ownBlock)) (by (with_reducible repeat (first|apply Kd.R_alloc|apply Kd.R_drewN|apply Kd.R_drew));exact HO263.out) hg hat);have n2_:=Aside0.mk (hb);have n3_:=Aside0.mk ((show Kd.C Kd.string w37 A30 y257.length y257 from by rw [Ny257.out,KA30.out];exact Kd.C_drop (m:=(x8_2:Int).toNat) (c:=co8) ((Kd.R_reads' (Kd.R_after (ok:=(fun k_=>some k_≠(v262:Value).ownBlock)) (by (with_reducible repeat (first|apply Kd.R_alloc|apply Kd.R_drewN|apply Kd.R_drew));exact Kd.R_mono HO_6.out (fun _ hk=>⟨hk.1.2,hk.2⟩)) hg hat)).2.2) KL30.out ((Kd.R_reads' (Kd.R_after (ok:=(fun k_=>some k_≠(v262:Value).ownBlock)) (by (with_reducible repeat (first|apply Kd.R_alloc|apply Kd.R_drewN|apply Kd.R_drew));exact Kd.R_mono HO_6.out (fun _ hk=>⟨hk.1.2,hk.2⟩)) hg hat)).2.1)));have n4_:=Aside0.mk ((show Kd.C Kd.string w37 (some ad250) y267.length y267 from by rw [Ny267.out];exact Kd.C_take (m:=(x8_2:Int).toNat) ((Kd.R_reads' (Kd.R_after (ok:=(fun k_=>some k_≠(v262:Value).ownBlock)) (by (with_reducible repeat (first|apply Kd.R_alloc|apply Kd.R_drewN|apply Kd.R_drew));exact Kd.R_mono HO_6.out (fun _ hk=>⟨hk.1.2,hk.2⟩)) hg hat)).2.2) KL36.out));have n5_:=Aside0.mk (ho);clear HO_6;clear HO263;clear HB;clear HR260;clear HR270;clear HO266;have HO_6:=n0_;have HO263:=n1_;have HB:=n2_;have HR260:=n3_;have HR270:=n4_;have HO273:=n5_;clear n0_ n1_ n2_ n3_ n4_ n5_;clear ho hb hg hat;obtain ⟨Ao39,co39,eo39⟩:=Kd.R_slice HO263.out;subst eo39)|((with_reducible refine gate_builtin (b:= .append) (xs:= #[.tmp 78,.tmp 79]) rfl ?_);at_builtin;refine Kd.R_append_rows Kd.string (w0:=w) w.heap.size rfl (.tmp 78) (.tmp 79) 23 9 (.string ⟨#[]⟩) 16 rfl Tryz.underlying23 info9 rfl (by decide) (by omega) v272 y271 y261 _ _ _ (fun k_=>some k_≠(.slice (some ad250) x6_1.length co8:Value).ownBlock∧some k_≠(.slice Ao39 y261.length co39:Value).ownBlock) (fun _=>False) rfl rfl ?aO ?aR (fun _ _ h=>h) (fun _ h=>h.elim) ?aF ?aB ?aS ?aL ?_;(case aR=>repeat (first|exact (Kd.R_reads' HO263.out).2.2|(with_reducible refine Kd.C_alloc ?_ _)|(with_reducible refine Kd.C_drewN ?_ _)|(with_reducible refine Kd.C_drew ?_)));(case aB=>exact (by repeat (first|(with_reducible first|exact HB.out|apply below_alloc|apply pw_below_drewN|apply below_drew1)|exact HB.out)));(case aF=>exact (fun k_ hk=>⟨Kd.fresh' (Kd.R_lt (by (with_reducible repeat (first|apply Kd.R_alloc|apply Kd.R_drewN|apply Kd.R_drew));exact HO_6.out)) k_ hk,Kd.fresh' (Kd.R_lt (by (with_reducible repeat (first|apply Kd.R_alloc|apply Kd.R_drewN|apply Kd.R_drew));exact HO263.out)) k_ hk⟩));(case aO=>exact (by (with_reducible repeat (first|apply Kd.R_alloc|apply Kd.R_drewN|apply Kd.R_drew));exact HO273.out));(case aS=>exact (below_size (by repeat (first|(with_reducible first|exact HB.out|apply below_alloc|apply pw_below_drewN|apply below_drew1)|exact HB.out))));(case aL=>have:=LMc26.out;omega);intro v275 w38 ho hb hg hat;rw [←Ny274.out] at ho;have n0_:=Aside0.mk (Kd.R_after (ok:=(fun k_=>some k_≠(.slice Ao39 y261.length co39:Value).ownBlock)) (by (with_reducible repeat (first|apply Kd.R_alloc|apply Kd.R_drewN|apply Kd.R_drew));exact HO_6.out) hg hat);have n1_:=Aside0.mk (Kd.R_after (ok:=(fun k_=>some k_≠(.slice (some ad250) x6_1.length co8:Value).ownBlock)) (by (with_reducible repeat (first|apply Kd.R_alloc|apply Kd.R_drewN|apply Kd.R_drew));exact HO263.out) hg hat);have n2_:=Aside0.mk (hb);have n3_:=Aside0.mk ((show Kd.C Kd.string w38 A30 y257.length y257 from by rw [Ny257.out,KA30.out];exact Kd.C_drop (m:=(x8_2:Int).toNat) (c:=co8) ((Kd.R_reads' (Kd.R_after (ok:=(fun k_=>some k_≠(.slice Ao39 y261.length co39:Value).ownBlock)) (by (with_reducible repeat (first|apply Kd.R_alloc|apply Kd.R_drewN|apply Kd.R_drew));exact HO_6.out) hg hat)).2.2) KL30.out ((Kd.R_reads' (Kd.R_after (ok:=(fun k_=>some k_≠(.slice Ao39 y261.length co39:Value).ownBlock)) (by (with_reducible repeat (first|apply Kd.R_alloc|apply Kd.R_drewN|apply Kd.R_drew));exact HO_6.out) hg hat)).2.1)));have n4_:=Aside0.mk ((show Kd.C Kd.string w38 (some ad250) y267.length y267 from by rw [Ny267.out];exact Kd.C_take (m:=(x8_2:Int).toNat) ((Kd.R_reads' (Kd.R_after (ok:=(fun k_=>some k_≠(.slice Ao39 y261.length co39:Value).ownBlock)) (by (with_reducible repeat (first|apply Kd.R_alloc|apply Kd.R_drewN|apply Kd.R_drew));exact HO_6.out) hg hat)).2.2) KL36.out));have n5_:=Aside0.mk (ho);clear HO_6;clear HO263;clear HB;clear HR260;clear HR270;clear HO273;have HO_6:=n0_;have HO263:=n1_;have HB:=n2_;have HR260:=n3_;have HR270:=n4_;have HO276:=n5_;clear n0_ n1_ n2_ n3_ n4_ n5_;clear ho hb hg hat))
                                      go_roundg k2
                                      case measure=>have:=HK1.out;have:=HK2.out;omega
                                      case rel=>exact ⟨(y274),(wrap64 (x7_1+1)),(by first|rfl|(simp;done)|(simp [*];done)),H',⟨by have:=HK1.out;have:=HK2.out;omega⟩,⟨by (with_reducible repeat (first|apply Kd.R_alloc|apply Kd.R_drewN|apply Kd.R_drew));exact Kd.R_mono HO276.out (fun _ hk=>trivial)⟩,⟨by repeat (first|(with_reducible first|exact HB.out|apply below_alloc|apply pw_below_drewN|apply below_drew1)|exact HB.out)⟩⟩
                                    · rw [if_neg c26] at H;exact absurd H (by simp)
                                  · rw [if_neg c25] at H;exact absurd H (by simp)
                                · rw [if_neg c22] at H;exact absurd H (by simp)
                              · rw [if_neg c21] at H;exact absurd H (by simp)
                            · rw [if_neg c20] at H;exact absurd H (by simp)
                      · rw [if_neg c14] at H;exact absurd H (by simp)
                    · rw [if_neg c13] at H;exact absurd H (by simp)
                  · rw [if_neg c11] at H;exact absurd H (by simp)
                · rw [if_neg c10] at H;exact absurd H (by simp)
              · rw [if_neg c9] at H;have c9b0:decide (0<x8_2)=false:=decide_eq_false c9;clear c9;by_cases c40:0≤x7_1
                · rw [if_pos c40] at H;have c40b0:decide (0≤x7_1)=true:=decide_eq_true c40;clear c40;by_cases c41:x7_1<(l0.length:Int)
                  · rw [if_pos c41] at H;have c41b0:decide (x7_1<(l0.length:Int))=true:=decide_eq_true c41;clear c41
                    obtain ⟨y278,hy278⟩: ∃y_:List ByteArray,y_=(([(rd_T40 l0 x7_1).f3]:List ByteArray)):=⟨_,rfl⟩
                    replace H:(if 0≤x8_2 then (if x8_2≤(x6_1.length:Int) then ((some (x6_1.drop (x8_2:Int).toNat:List ByteArray)).bind fun y281=>(if y278.length+y281.length<8796093022208 then ((some (y278++y281:List ByteArray)).bind fun y285=>((some (([]:List ByteArray):List ByteArray)).bind fun y288=>((some (x6_1.take (x8_2:Int).toNat:List ByteArray)).bind fun y291=>(if y288.length+y291.length<8796093022208 then ((some (y288++y291:List ByteArray)).bind fun y295=>(if y295.length+y285.length<8796093022208 then (mummerref04_Symbols.l0 k2 l0 (y295++y285) (wrap64 (x7_1+1))) else (none))) else (none))))) else (none))) else (none)) else (none))=some (r1,r2):=by first|(rw [hy278];with_reducible exact H)|(have H2_:=(Option.bind_some _ _).symm.trans H;rw [hy278];with_reducible exact H2_)|(have H2_:=(Option.bind_some _ _).symm.trans H;with_reducible exact H2_)|with_reducible exact H|(rw [hy278];exact H)|exact H
                    have Ny278:=Aside0.mk hy278;clear hy278;by_cases c42:0≤x8_2
                    · rw [if_pos c42] at H;have c42b0:=eq_true c42;have c42b1:decide (0≤x8_2)=true:=decide_eq_true c42;clear c42;by_cases c43:x8_2≤(x6_1.length:Int)
                      · rw [if_pos c43] at H;have c43b0:=eq_true c43;have c43b1:decide (x8_2≤(x6_1.length:Int))=true:=decide_eq_true c43;clear c43
                        obtain ⟨y281,hy281⟩: ∃y_:List ByteArray,y_=(x6_1.drop (x8_2:Int).toNat):=⟨_,rfl⟩
                        replace H:(if y278.length+y281.length<8796093022208 then ((some (y278++y281:List ByteArray)).bind fun y285=>((some (([]:List ByteArray):List ByteArray)).bind fun y288=>((some (x6_1.take (x8_2:Int).toNat:List ByteArray)).bind fun y291=>(if y288.length+y291.length<8796093022208 then ((some (y288++y291:List ByteArray)).bind fun y295=>(if y295.length+y285.length<8796093022208 then (mummerref04_Symbols.l0 k2 l0 (y295++y285) (wrap64 (x7_1+1))) else (none))) else (none))))) else (none))=some (r1,r2):=by first|(rw [hy281];with_reducible exact H)|(have H2_:=(Option.bind_some _ _).symm.trans H;rw [hy281];with_reducible exact H2_)|(have H2_:=(Option.bind_some _ _).symm.trans H;with_reducible exact H2_)|with_reducible exact H|(rw [hy281];exact H)|exact H
                        have Ny281:=Aside0.mk hy281;clear hy281;by_cases c44:y278.length+y281.length<8796093022208
                        · rw [if_pos c44] at H;have LMc44:=Aside0.mk c44;clear c44
                          obtain ⟨y285,hy285⟩: ∃y_:List ByteArray,y_=(y278++y281):=⟨_,rfl⟩
                          replace H:((some (([]:List ByteArray):List ByteArray)).bind fun y288=>((some (x6_1.take (x8_2:Int).toNat:List ByteArray)).bind fun y291=>(if y288.length+y291.length<8796093022208 then ((some (y288++y291:List ByteArray)).bind fun y295=>(if y295.length+y285.length<8796093022208 then (mummerref04_Symbols.l0 k2 l0 (y295++y285) (wrap64 (x7_1+1))) else (none))) else (none))))=some (r1,r2):=by first|(rw [hy285];with_reducible exact H)|(have H2_:=(Option.bind_some _ _).symm.trans H;rw [hy285];with_reducible exact H2_)|(have H2_:=(Option.bind_some _ _).symm.trans H;with_reducible exact H2_)|with_reducible exact H|(rw [hy285];exact H)|exact H
                          have Ny285:=Aside0.mk hy285;clear hy285
                          obtain ⟨y288,hy288⟩: ∃y_:List ByteArray,y_=(([]:List ByteArray)):=⟨_,rfl⟩
                          replace H:((some (x6_1.take (x8_2:Int).toNat:List ByteArray)).bind fun y291=>(if y288.length+y291.length<8796093022208 then ((some (y288++y291:List ByteArray)).bind fun y295=>(if y295.length+y285.length<8796093022208 then (mummerref04_Symbols.l0 k2 l0 (y295++y285) (wrap64 (x7_1+1))) else (none))) else (none)))=some (r1,r2):=by first|(rw [hy288];with_reducible exact H)|(have H2_:=(Option.bind_some _ _).symm.trans H;rw [hy288];with_reducible exact H2_)|(have H2_:=(Option.bind_some _ _).symm.trans H;with_reducible exact H2_)|with_reducible exact H|(rw [hy288];exact H)|exact H
                          have Ny288:=Aside0.mk hy288;clear hy288;have c45b0:=eq_true (of_decide_eq_true (by first|(with_reducible assumption)|assumption):0≤x8_2);have c46b0:=eq_true (of_decide_eq_true (by first|(with_reducible assumption)|assumption):x8_2≤(x6_1.length:Int))
                          obtain ⟨y291,hy291⟩: ∃y_:List ByteArray,y_=(x6_1.take (x8_2:Int).toNat):=⟨_,rfl⟩
                          replace H:(if y288.length+y291.length<8796093022208 then ((some (y288++y291:List ByteArray)).bind fun y295=>(if y295.length+y285.length<8796093022208 then (mummerref04_Symbols.l0 k2 l0 (y295++y285) (wrap64 (x7_1+1))) else (none))) else (none))=some (r1,r2):=by first|(rw [hy291];with_reducible exact H)|(have H2_:=(Option.bind_some _ _).symm.trans H;rw [hy291];with_reducible exact H2_)|(have H2_:=(Option.bind_some _ _).symm.trans H;with_reducible exact H2_)|with_reducible exact H|(rw [hy291];exact H)|exact H
                          have Ny291:=Aside0.mk hy291;clear hy291;by_cases c47:y288.length+y291.length<8796093022208
                          · rw [if_pos c47] at H;have LMc47:=Aside0.mk c47;clear c47
                            obtain ⟨y295,hy295⟩: ∃y_:List ByteArray,y_=(y288++y291):=⟨_,rfl⟩
                            replace H:(if y295.length+y285.length<8796093022208 then (mummerref04_Symbols.l0 k2 l0 (y295++y285) (wrap64 (x7_1+1))) else (none))=some (r1,r2):=by first|(rw [hy295];with_reducible exact H)|(have H2_:=(Option.bind_some _ _).symm.trans H;rw [hy295];with_reducible exact H2_)|(have H2_:=(Option.bind_some _ _).symm.trans H;with_reducible exact H2_)|with_reducible exact H|(rw [hy295];exact H)|exact H
                            have Ny295:=Aside0.mk hy295;clear hy295;by_cases c48:y295.length+y285.length<8796093022208
                            · rw [if_pos c48] at H;have LMc48:=Aside0.mk c48;clear c48
                              obtain ⟨y298,hy298⟩: ∃y_:List ByteArray,y_=(y295++y285):=⟨_,rfl⟩
                              replace H:(mummerref04_Symbols.l0 k2 l0 y298 (wrap64 (x7_1+1)))=some (r1,r2):=by first|(rw [hy298];with_reducible exact H)|(have H2_:=(Option.bind_some _ _).symm.trans H;rw [hy298];with_reducible exact H2_)|(have H2_:=(Option.bind_some _ _).symm.trans H;with_reducible exact H2_)|with_reducible exact H|(rw [hy298];exact H)|exact H
                              have Ny298:=Aside0.mk hy298;clear hy298;have H':=Aside0.mk H;clear H
                              try go_wp2
                              have n0_:=Aside0.mk (Kd.R_drew HO_6.out);have n1_:=Aside0.mk (below_drew1 HB.out);clear HO_6 HB;have HO_6:=n0_;have HB:=n1_;clear n0_ n1_;refine start_ (n:=15) (S:=fun w'=>True) (ds:=[]) #[false,false,false,false,false,false,false,false,false,false,false,false,false,false,false] (by kernel_rfl) rfl rfl trivial (fun hHeld=>?_);refine with_tabW mummerref04_Symbols.tab10 mummerref04_Symbols.bits10 (fun HT_ HW_=>?_);generalize wr.drew=w49 at HO_6 HB hHeld ⊢; refine pure_ (i:=0) (N:=some 32) (v:=?_) (a':=?_) #[true,false,false,false,false,false,false,false,false,false,false,false,false,false,false] rfl rfl (any_of HT_.out (by kernel_rfl)) (fun _ _ _ h=>h) (Or.inl ⟨by rfl,?_⟩) ?_ ?_;rotate_left
                              · intro w';go_simp
                                with_reducible rfl
                              rotate_left
                              · simp only [Act.put,List.setIfInBounds_toArray,List.set_cons_zero,List.set_cons_succ,i64_w,i32_w];rfl
                              refine pure_ (i:=1) (N:=some 33) (v:=?_) (a':=?_) #[true,true,false,false,false,false,false,false,false,false,false,false,false,false,false] rfl rfl (any_of HT_.out (by kernel_rfl)) (fun _ _ _ h=>h) (Or.inl ⟨by rfl,?_⟩) ?_ ?_;rotate_left
                              · intro w';go_simp
                                with_reducible rfl
                              rotate_left
                              · simp only [Act.put,List.setIfInBounds_toArray,List.set_cons_zero,List.set_cons_succ,i64_w,i32_w];rfl
                              refine pure_ (i:=2) (N:=some 34) (v:=?_) (a':=?_) #[true,true,true,false,false,false,false,false,false,false,false,false,false,false,false] rfl rfl (any_of HT_.out (by kernel_rfl)) (fun _ _ _ h=>h) (Or.inl ⟨by rfl,?_⟩) ?_ ?_;rotate_left
                              · intro w';go_simp
                                with_reducible rfl
                              rotate_left
                              · simp only [Act.put,List.setIfInBounds_toArray,List.set_cons_zero,List.set_cons_succ,i64_w,i32_w];rfl
                              refine pure_ (i:=3) (N:=some 35) (v:=undef) (a':=?_) #[true,true,true,true,false,false,false,false,false,false,false,false,false,false,false] rfl rfl (any_of HT_.out (by kernel_rfl)) (fun _ _ _ h=>h) (Or.inr ⟨by rfl,rfl⟩) ?_ ?_;rotate_left
                              · simp only [Act.put,List.setIfInBounds_toArray,List.set_cons_zero,List.set_cons_succ,i64_w,i32_w];rfl
                              refine pure_ (i:=4) (N:=some 36) (v:=undef) (a':=?_) #[true,true,true,true,true,false,false,false,false,false,false,false,false,false,false] rfl rfl (any_of HT_.out (by kernel_rfl)) (fun _ _ _ h=>h) (Or.inr ⟨by rfl,rfl⟩) ?_ ?_;rotate_left
                              · simp only [Act.put,List.setIfInBounds_toArray,List.set_cons_zero,List.set_cons_succ,i64_w,i32_w];rfl
                              refine pure_ (i:=5) (N:=some 37) (v:=undef) (a':=?_) #[true,true,true,true,true,true,false,false,false,false,false,false,false,false,false] rfl rfl (any_of HT_.out (by kernel_rfl)) (fun _ _ _ h=>h) (Or.inr ⟨by rfl,rfl⟩) ?_ ?_;rotate_left
                              · simp only [Act.put,List.setIfInBounds_toArray,List.set_cons_zero,List.set_cons_succ,i64_w,i32_w];rfl
                              refine pure_ (i:=6) (N:=some 38) (v:=undef) (a':=?_) #[true,true,true,true,true,true,true,false,false,false,false,false,false,false,false] rfl rfl (any_of HT_.out (by kernel_rfl)) (fun _ _ _ h=>h) (Or.inr ⟨by rfl,rfl⟩) ?_ ?_;rotate_left
                              · simp only [Act.put,List.setIfInBounds_toArray,List.set_cons_zero,List.set_cons_succ,i64_w,i32_w];rfl
                              refine pure_ (i:=7) (N:=some 39) (v:=undef) (a':=?_) #[true,true,true,true,true,true,true,true,false,false,false,false,false,false,false] rfl rfl (any_of HT_.out (by kernel_rfl)) (fun _ _ _ h=>h) (Or.inr ⟨by rfl,rfl⟩) ?_ ?_;rotate_left
                              · simp only [Act.put,List.setIfInBounds_toArray,List.set_cons_zero,List.set_cons_succ,i64_w,i32_w];rfl
                              refine pure_ (i:=8) (N:=some 40) (v:=undef) (a':=?_) #[true,true,true,true,true,true,true,true,true,false,false,false,false,false,false] rfl rfl (any_of HT_.out (by kernel_rfl)) (fun _ _ _ h=>h) (Or.inr ⟨by rfl,rfl⟩) ?_ ?_;rotate_left
                              · simp only [Act.put,List.setIfInBounds_toArray,List.set_cons_zero,List.set_cons_succ,i64_w,i32_w];rfl
                              refine pure_ (i:=9) (N:=some 41) (v:=undef) (a':=?_) #[true,true,true,true,true,true,true,true,true,true,false,false,false,false,false] rfl rfl (any_of HT_.out (by kernel_rfl)) (fun _ _ _ h=>h) (Or.inr ⟨by rfl,rfl⟩) ?_ ?_;rotate_left
                              · simp only [Act.put,List.setIfInBounds_toArray,List.set_cons_zero,List.set_cons_succ,i64_w,i32_w];rfl
                              refine pure_ (i:=10) (N:=some 42) (v:=undef) (a':=?_) #[true,true,true,true,true,true,true,true,true,true,true,false,false,false,false] rfl rfl (any_of HT_.out (by kernel_rfl)) (fun _ _ _ h=>h) (Or.inr ⟨by rfl,rfl⟩) ?_ ?_;rotate_left
                              · simp only [Act.put,List.setIfInBounds_toArray,List.set_cons_zero,List.set_cons_succ,i64_w,i32_w];rfl
                              refine pure_ (i:=11) (N:=some 43) (v:=undef) (a':=?_) #[true,true,true,true,true,true,true,true,true,true,true,true,false,false,false] rfl rfl (any_of HT_.out (by kernel_rfl)) (fun _ _ _ h=>h) (Or.inr ⟨by rfl,rfl⟩) ?_ ?_;rotate_left
                              · simp only [Act.put,List.setIfInBounds_toArray,List.set_cons_zero,List.set_cons_succ,i64_w,i32_w];rfl
                              refine pure_ (i:=12) (N:=some 44) (v:=undef) (a':=?_) #[true,true,true,true,true,true,true,true,true,true,true,true,true,false,false] rfl rfl (any_of HT_.out (by kernel_rfl)) (fun _ _ _ h=>h) (Or.inr ⟨by rfl,rfl⟩) ?_ ?_;rotate_left
                              · simp only [Act.put,List.setIfInBounds_toArray,List.set_cons_zero,List.set_cons_succ,i64_w,i32_w];rfl
                              refine pure_ (i:=13) (N:=some 45) (v:=undef) (a':=?_) #[true,true,true,true,true,true,true,true,true,true,true,true,true,true,false] rfl rfl (any_of HT_.out (by kernel_rfl)) (fun _ _ _ h=>h) (Or.inr ⟨by rfl,rfl⟩) ?_ ?_;rotate_left
                              · simp only [Act.put,List.setIfInBounds_toArray,List.set_cons_zero,List.set_cons_succ,i64_w,i32_w];rfl
                              refine pure_ (i:=14) (N:=some 46) (v:=?_) (a':=?_) #[true,true,true,true,true,true,true,true,true,true,true,true,true,true,true] rfl rfl (any_of HT_.out (by kernel_rfl)) (fun _ _ _ h=>h) (Or.inl ⟨by rfl,?_⟩) ?_ ?_;rotate_left
                              · intro w';go_simp
                                with_reducible rfl
                              rotate_left
                              · simp only [Act.put,List.setIfInBounds_toArray,List.set_cons_zero,List.set_cons_succ,i64_w,i32_w];rfl
                              refine done_ (done_of HT_.out (by kernel_rfl)) ?_
                              try go_wp2
                              have n0_:=Aside0.mk (Kd.R_drew HO_6.out);have n1_:=Aside0.mk (below_drew1 HB.out);clear HO_6 HB;have HO_6:=n0_;have HB:=n1_;clear n0_ n1_;refine start_ (n:=15) (S:=fun w'=>True) (ds:=[]) #[false,false,false,false,false,false,false,false,false,false,false,false,false,false,false] (by kernel_rfl) rfl rfl trivial (fun hHeld=>?_);refine with_tabW mummerref04_Symbols.tab12 mummerref04_Symbols.bits12 (fun HT_ HW_=>?_);generalize w49.drew=w50 at HO_6 HB hHeld ⊢; refine pure_ (i:=0) (N:=some 49) (v:=?_) (a':=?_) #[true,false,false,false,false,false,false,false,false,false,false,false,false,false,false] rfl rfl (any_of HT_.out (by kernel_rfl)) (fun _ _ _ h=>h) (Or.inl ⟨by rfl,?_⟩) ?_ ?_;rotate_left
                              · intro w';go_simp
                                with_reducible rfl
                              rotate_left
                              · simp only [Act.put,List.setIfInBounds_toArray,List.set_cons_zero,List.set_cons_succ,i64_w,i32_w];rfl
                              refine pure_ (i:=1) (N:=some 50) (v:=?_) (a':=?_) #[true,true,false,false,false,false,false,false,false,false,false,false,false,false,false] rfl rfl (any_of HT_.out (by kernel_rfl)) (fun _ _ _ h=>h) (Or.inl ⟨by rfl,?_⟩) ?_ ?_;rotate_left
                              · intro w';go_simp
                                with_reducible rfl
                              rotate_left
                              · simp only [Act.put,List.setIfInBounds_toArray,List.set_cons_zero,List.set_cons_succ,i64_w,i32_w];rfl
                              refine pure_ (i:=2) (N:=some 51) (v:=?_) (a':=?_) #[true,true,true,false,false,false,false,false,false,false,false,false,false,false,false] rfl rfl (any_of HT_.out (by kernel_rfl)) (fun _ _ _ h=>h) (Or.inl ⟨by rfl,?_⟩) ?_ ?_;rotate_left
                              · intro w';go_simp
                                with_reducible rfl
                              rotate_left
                              · simp only [Act.put,List.setIfInBounds_toArray,List.set_cons_zero,List.set_cons_succ,i64_w,i32_w];rfl
                              refine pure_ (i:=3) (N:=some 52) (v:=undef) (a':=?_) #[true,true,true,true,false,false,false,false,false,false,false,false,false,false,false] rfl rfl (any_of HT_.out (by kernel_rfl)) (fun _ _ _ h=>h) (Or.inr ⟨by rfl,rfl⟩) ?_ ?_;rotate_left
                              · simp only [Act.put,List.setIfInBounds_toArray,List.set_cons_zero,List.set_cons_succ,i64_w,i32_w];rfl
                              refine pure_ (i:=4) (N:=some 53) (v:=undef) (a':=?_) #[true,true,true,true,true,false,false,false,false,false,false,false,false,false,false] rfl rfl (any_of HT_.out (by kernel_rfl)) (fun _ _ _ h=>h) (Or.inr ⟨by rfl,rfl⟩) ?_ ?_;rotate_left
                              · simp only [Act.put,List.setIfInBounds_toArray,List.set_cons_zero,List.set_cons_succ,i64_w,i32_w];rfl
                              refine pure_ (i:=5) (N:=some 54) (v:=undef) (a':=?_) #[true,true,true,true,true,true,false,false,false,false,false,false,false,false,false] rfl rfl (any_of HT_.out (by kernel_rfl)) (fun _ _ _ h=>h) (Or.inr ⟨by rfl,rfl⟩) ?_ ?_;rotate_left
                              · simp only [Act.put,List.setIfInBounds_toArray,List.set_cons_zero,List.set_cons_succ,i64_w,i32_w];rfl
                              refine pure_ (i:=6) (N:=some 55) (v:=undef) (a':=?_) #[true,true,true,true,true,true,true,false,false,false,false,false,false,false,false] rfl rfl (any_of HT_.out (by kernel_rfl)) (fun _ _ _ h=>h) (Or.inr ⟨by rfl,rfl⟩) ?_ ?_;rotate_left
                              · simp only [Act.put,List.setIfInBounds_toArray,List.set_cons_zero,List.set_cons_succ,i64_w,i32_w];rfl
                              refine pure_ (i:=7) (N:=some 56) (v:=undef) (a':=?_) #[true,true,true,true,true,true,true,true,false,false,false,false,false,false,false] rfl rfl (any_of HT_.out (by kernel_rfl)) (fun _ _ _ h=>h) (Or.inr ⟨by rfl,rfl⟩) ?_ ?_;rotate_left
                              · simp only [Act.put,List.setIfInBounds_toArray,List.set_cons_zero,List.set_cons_succ,i64_w,i32_w];rfl
                              refine pure_ (i:=8) (N:=some 57) (v:=undef) (a':=?_) #[true,true,true,true,true,true,true,true,true,false,false,false,false,false,false] rfl rfl (any_of HT_.out (by kernel_rfl)) (fun _ _ _ h=>h) (Or.inr ⟨by rfl,rfl⟩) ?_ ?_;rotate_left
                              · simp only [Act.put,List.setIfInBounds_toArray,List.set_cons_zero,List.set_cons_succ,i64_w,i32_w];rfl
                              refine pure_ (i:=9) (N:=some 58) (v:=undef) (a':=?_) #[true,true,true,true,true,true,true,true,true,true,false,false,false,false,false] rfl rfl (any_of HT_.out (by kernel_rfl)) (fun _ _ _ h=>h) (Or.inr ⟨by rfl,rfl⟩) ?_ ?_;rotate_left
                              · simp only [Act.put,List.setIfInBounds_toArray,List.set_cons_zero,List.set_cons_succ,i64_w,i32_w];rfl
                              refine pure_ (i:=10) (N:=some 59) (v:=undef) (a':=?_) #[true,true,true,true,true,true,true,true,true,true,true,false,false,false,false] rfl rfl (any_of HT_.out (by kernel_rfl)) (fun _ _ _ h=>h) (Or.inr ⟨by rfl,rfl⟩) ?_ ?_;rotate_left
                              · simp only [Act.put,List.setIfInBounds_toArray,List.set_cons_zero,List.set_cons_succ,i64_w,i32_w];rfl
                              refine pure_ (i:=11) (N:=some 60) (v:=undef) (a':=?_) #[true,true,true,true,true,true,true,true,true,true,true,true,false,false,false] rfl rfl (any_of HT_.out (by kernel_rfl)) (fun _ _ _ h=>h) (Or.inr ⟨by rfl,rfl⟩) ?_ ?_;rotate_left
                              · simp only [Act.put,List.setIfInBounds_toArray,List.set_cons_zero,List.set_cons_succ,i64_w,i32_w];rfl
                              refine pure_ (i:=12) (N:=some 61) (v:=undef) (a':=?_) #[true,true,true,true,true,true,true,true,true,true,true,true,true,false,false] rfl rfl (any_of HT_.out (by kernel_rfl)) (fun _ _ _ h=>h) (Or.inr ⟨by rfl,rfl⟩) ?_ ?_;rotate_left
                              · simp only [Act.put,List.setIfInBounds_toArray,List.set_cons_zero,List.set_cons_succ,i64_w,i32_w];rfl
                              refine pure_ (i:=13) (N:=some 62) (v:=undef) (a':=?_) #[true,true,true,true,true,true,true,true,true,true,true,true,true,true,false] rfl rfl (any_of HT_.out (by kernel_rfl)) (fun _ _ _ h=>h) (Or.inr ⟨by rfl,rfl⟩) ?_ ?_;rotate_left
                              · simp only [Act.put,List.setIfInBounds_toArray,List.set_cons_zero,List.set_cons_succ,i64_w,i32_w];rfl
                              refine pure_ (i:=14) (N:=some 63) (v:=?_) (a':=?_) #[true,true,true,true,true,true,true,true,true,true,true,true,true,true,true] rfl rfl (any_of HT_.out (by kernel_rfl)) (fun _ _ _ h=>h) (Or.inl ⟨by rfl,?_⟩) ?_ ?_;rotate_left
                              · intro w';go_simp
                                with_reducible rfl
                              rotate_left
                              · simp only [Act.put,List.setIfInBounds_toArray,List.set_cons_zero,List.set_cons_succ,i64_w,i32_w];rfl
                              refine done_ (done_of HT_.out (by kernel_rfl)) ?_
                              try go_wp2
                              have n0_:=Aside0.mk (Kd.R_drew HO_6.out);have n1_:=Aside0.mk (below_drew1 HB.out);clear HO_6 HB;have HO_6:=n0_;have HB:=n1_;clear n0_ n1_;have p277:0≤(x7_1:Int):=of_decide_eq_true (by first|(with_reducible assumption)|assumption);have q277:x7_1<(l0.length:Int):=of_decide_eq_true (by first|(with_reducible assumption)|assumption);obtain ⟨ad277,e277,hx277_0,hx277_1,hx277_2,hx277_3⟩:=at_T40 HR0.out x7_1 p277 q277;have hw277_3:=hx277_3;have hw277_2:=hx277_2;have hw277_1:=hx277_1;have hw277_0:=hx277_0
                              obtain rfl:ad248=ad277:=(by injection e277)
                              replace hx277_0:=(HB.out.cell (World.block_lt_of_cell? w _ hx277_0)).trans hx277_0;replace hx277_1:=(HB.out.cell (World.block_lt_of_cell? w _ hx277_1)).trans hx277_1;replace hx277_2:=(HB.out.cell (World.block_lt_of_cell? w _ hx277_2)).trans hx277_2;replace hx277_3:=(HB.out.cell (World.block_lt_of_cell? w _ hx277_3)).trans hx277_3;replace p277:=eq_true p277;replace q277:=eq_true q277;have q52:(x8_2:Int)≤((x6_1.length:Int):Int):=of_decide_eq_true (by first|(with_reducible assumption)|assumption);obtain ⟨i052,hi052,_,hsz52,_⟩:=info_parts info9;have hroom52:x6_1.length≤co8:=(Kd.R_reads' HO_6.out).2.1;have hC52:Kd.C Kd.string _ Ao8 x6_1.length x6_1:=(Kd.R_reads' HO_6.out).2.2;have q052:(0:Int)≤(x8_2:Int):=of_decide_eq_true (by first|(with_reducible assumption)|assumption);have hcut52:=cut_from (P:=Tryz.prog) 23 9 .i64 Tryz.underlying23 hi052 1 hsz52 Ao8 x6_1.length co8 x8_2 q052 q52;have hr52:=Kd.C_drop (m:=(x8_2:Int).toNat) (c:=co8) hC52 (by omega) hroom52
                              obtain ⟨A52,hA52⟩: ∃A1,A1=(if co8=(x8_2:Int).toNat then Ao8 else (Ao8:Option Addr).map (·.add ((x8_2:Int).toNat*1))):=⟨_,rfl⟩
                              obtain ⟨c52,hc52⟩: ∃c1,c1=co8-(x8_2:Int).toNat:=⟨_,rfl⟩
                              have hy52:y281.length=x6_1.length-(x8_2:Int).toNat:=(by rw [Ny281.out,List.length_drop]<;>omega)
                              rw [show (x6_1).drop (x8_2:Int).toNat=y281 from Ny281.out.symm] at hr52
                              replace hr52:Kd.C Kd.string _ A52 y281.length y281:=(by rw [hA52];exact hr52)
                              rw [←hy52,←hA52,←hc52] at hcut52;have HR284:=Aside0.mk hr52;have HC284:=Aside0.mk (show y281.length≤c52 from by rw [hy52,hc52];exact Nat.sub_le_sub_right hroom52 _);clear hr52 hC52 hroom52 hi052 hsz52 hc52;have KY52:=Aside0.mk hy52;have KA52:=Aside0.mk hA52;clear hy52 hA52;have KL52:=Aside0.mk (show (x8_2:Int).toNat≤x6_1.length from by omega);replace q52:=eq_true q52;refine start_ (n:=11) (S:=fun w'=>w'.cell? (ad248.add ((x7_1).toNat*4))=some (.int .i64 ((rd_T40 l0 x7_1).f0))∧w'.cell? ⟨(ad248.add ((x7_1).toNat*4)).block,(ad248.add ((x7_1).toNat*4)).off+1,none⟩=some (.int .i64 ((rd_T40 l0 x7_1).f1))∧w'.cell? ⟨(ad248.add ((x7_1).toNat*4)).block,(ad248.add ((x7_1).toNat*4)).off+2,none⟩=some (.int .i64 ((rd_T40 l0 x7_1).f2))∧w'.cell? ⟨(ad248.add ((x7_1).toNat*4)).block,(ad248.add ((x7_1).toNat*4)).off+3,none⟩=some (.string ((rd_T40 l0 x7_1).f3))) (ds:=[]) #[false,false,false,false,false,false,false,false,false,false,false] (by kernel_rfl) rfl rfl ⟨((HB.out.cell (World.block_lt_of_cell? w _ hw277_0)).trans hw277_0),((HB.out.cell (World.block_lt_of_cell? w _ hw277_1)).trans hw277_1),((HB.out.cell (World.block_lt_of_cell? w _ hw277_2)).trans hw277_2),((HB.out.cell (World.block_lt_of_cell? w _ hw277_3)).trans hw277_3)⟩ (fun hHeld=>?_);refine with_tabW mummerref04_Symbols.tab13 mummerref04_Symbols.bits13 (fun HT_ HW_=>?_);generalize w50.drew=w51 at HO_6 HB HR284 hx277_0 hx277_1 hx277_2 hx277_3 hHeld ⊢; refine pure_ (i:=0) (N:=some 64) (v:=?_) (a':=?_) #[true,false,false,false,false,false,false,false,false,false,false] rfl rfl (any_of HT_.out (by kernel_rfl)) (fun _ _ _ h=>h) (Or.inl ⟨by rfl,?_⟩) ?_ ?_;rotate_left
                              · intro w';go_simp
                                with_reducible rfl
                              rotate_left
                              · simp only [Act.put,List.setIfInBounds_toArray,List.set_cons_zero,List.set_cons_succ,i64_w,i32_w];rfl
                              refine pure_ (i:=1) (N:=some 65) (v:=?_) (a':=?_) #[true,true,false,false,false,false,false,false,false,false,false] rfl rfl (any_of HT_.out (by kernel_rfl)) (fun _ _ _ h=>h) (Or.inl ⟨by rfl,?_⟩) ?_ ?_;rotate_left
                              · intro w';go_simp
                                with_reducible rfl
                              rotate_left
                              · simp only [Act.put,List.setIfInBounds_toArray,List.set_cons_zero,List.set_cons_succ,i64_w,i32_w];rfl
                              refine pure_ (i:=2) (N:=some 66) (v:=?_) (a':=?_) #[true,true,true,false,false,false,false,false,false,false,false] rfl rfl (any_of HT_.out (by kernel_rfl)) (fun _ _ _ h=>h) (Or.inl ⟨by rfl,?_⟩) ?_ ?_;rotate_left
                              · intro w';go_simp
                                with_reducible rfl
                              rotate_left
                              · simp only [Act.put,List.setIfInBounds_toArray,List.set_cons_zero,List.set_cons_succ,i64_w,i32_w];rfl
                              refine pure_ (i:=3) (N:=some 67) (v:=?_) (a':=?_) #[true,true,true,true,false,false,false,false,false,false,false] rfl rfl (any_of HT_.out (by kernel_rfl)) (fun _ _ _ h=>h) (Or.inl ⟨by rfl,?_⟩) ?_ ?_;rotate_left
                              · intro w';go_simp
                                with_reducible rfl
                              rotate_left
                              · simp only [Act.put,List.setIfInBounds_toArray,List.set_cons_zero,List.set_cons_succ,i64_w,i32_w];rfl
                              refine pure_ (i:=6) (N:=some 70) (v:=?_) (a':=?_) #[true,true,true,true,false,false,true,false,false,false,false] rfl rfl (any_of HT_.out (by kernel_rfl)) (fun _ _ _ h=>h) (Or.inl ⟨by rfl,?_⟩) ?_ ?_;rotate_left
                              · intro w';go_simp
                                with_reducible rfl
                              rotate_left
                              · simp only [Act.put,List.setIfInBounds_toArray,List.set_cons_zero,List.set_cons_succ,i64_w,i32_w];rfl
                              refine pure_ (i:=7) (N:=some 71) (v:=?_) (a':=?_) #[true,true,true,true,false,false,true,true,false,false,false] rfl rfl (any_of HT_.out (by kernel_rfl)) (fun _ _ _ h=>h) (Or.inl ⟨by rfl,?_⟩) ?_ ?_;rotate_left
                              · intro w';go_simp
                                with_reducible rfl
                              rotate_left
                              · simp only [Act.put,List.setIfInBounds_toArray,List.set_cons_zero,List.set_cons_succ,i64_w,i32_w];rfl
                              refine pure_ (i:=8) (N:=some 72) (v:=?_) (a':=?_) #[true,true,true,true,false,false,true,true,true,false,false] rfl rfl (any_of HT_.out (by kernel_rfl)) (fun _ _ _ h=>h) (Or.inl ⟨by rfl,?_⟩) ?_ ?_;rotate_left
                              · intro w';go_simp
                                with_reducible rfl
                              rotate_left
                              · simp only [Act.put,List.setIfInBounds_toArray,List.set_cons_zero,List.set_cons_succ,i64_w,i32_w];rfl
                              refine take_ (i:=4) (N:=some 68) (v:=?_) (a':=?_) #[true,true,true,true,true,false,true,true,true,false,false] rfl rfl (take_ofW HT_.out HW_.out (by kernel_rfl)) (fun _ _ _ h=>h) (Or.inl ⟨by rfl,?_⟩) hHeld ?_ ?_;rotate_left
                              · rintro w' ⟨s0,s1,s2,s3⟩;go_simp
                                with_reducible rfl
                              rotate_left
                              · simp only [Act.put,List.setIfInBounds_toArray,List.set_cons_zero,List.set_cons_succ,i64_w,i32_w];rfl
                              refine one_ (i:=5) (N:=some 69) #[true,true,true,true,true,true,true,true,true,false,false] rfl rfl (one_of HT_.out (by kernel_rfl)) (by decide) (fun K hK=>?_);refine Kd.R_lit_step Kd.string _ 9 ?hg (N:=69) ?hd (xs:=([(rd_T40 l0 x7_1).f3]:List ByteArray)) (inner:=[.string ((rd_T40 l0 x7_1).f3)]) (ok:=fun _=>True) (okp:=fun _=>True) ?hr ?hp (fun _ hk=>hk) trivial (Below.refl _ _) (Nat.le_refl _) (by simp) ?_;(case hd=>rfl);(case hg=>rfl);(case hr=>first|(go_simp;done)|(go_simp;rfl));(case hp=>exact (Reps.one (show Kd.M Kd.string _ _ _ ((rd_T40 l0 x7_1).f3) [.string ((rd_T40 l0 x7_1).f3)] from rfl) (Reps.none _ _)));intro v279 w53 ho54 hb hg_ hnew_;clear hg_ hnew_
                              (first|rw [←Ny278.out] at ho54|(simp only [Int.reduceToNat] at ho54;rw [←Ny278.out] at ho54))
                              have n0_:=Aside0.mk (Kd.R_elder' (by (with_reducible repeat (first|apply Kd.R_alloc|apply Kd.R_drewN|apply Kd.R_drew));exact HO_6.out) (Kd.R_base ho54) hb);have n1_:=Aside0.mk (Kd.R_lower (Kd.R_new' ho54 (Kd.R_lt (by (with_reducible repeat (first|apply Kd.R_alloc|apply Kd.R_drewN|apply Kd.R_drew));exact HO_6.out))) (below_size (by repeat (first|(with_reducible first|exact HB.out|apply below_alloc|apply pw_below_drewN|apply below_drew1)|exact HB.out))));have n2_:=Aside0.mk (Kd.C_below (by repeat (first|(with_reducible exact HR284.out)|(with_reducible refine Kd.C_alloc ?_ _)|(with_reducible refine Kd.C_drewN ?_ _)|(with_reducible refine Kd.C_drew ?_)|exact HR284.out)) hb);have n3_:=Aside0.mk (below_step (by repeat (first|(with_reducible first|exact HB.out|apply below_alloc|apply pw_below_drewN|apply below_drew1)|exact HB.out)) hb);clear HO_6 HR284 HB;have HO_6:=n0_;have HO280:=n1_;have HR284:=n2_;have HB:=n3_;clear n0_ n1_ n2_ n3_ hb ho54;refine hK.out _ _ ⟨((HB.out.cell (World.block_lt_of_cell? w _ hw277_0)).trans hw277_0),((HB.out.cell (World.block_lt_of_cell? w _ hw277_1)).trans hw277_1),((HB.out.cell (World.block_lt_of_cell? w _ hw277_2)).trans hw277_2),((HB.out.cell (World.block_lt_of_cell? w _ hw277_3)).trans hw277_3)⟩ (fun hHeld=>?_);clear hK K;refine norm_ (a':=?_) ?_ ?_;rotate_left
                              · show Act.put _ (some 69) _=_;simp only [Act.put,List.setIfInBounds_toArray,List.set_cons_zero,List.set_cons_succ,i64_w,i32_w];rfl
                              refine one_ (i:=9) (N:=some 73) #[true,true,true,true,true,true,true,true,true,true,false] rfl rfl (one_of HT_.out (by kernel_rfl)) (by decide) (fun K hK=>?_);refine Kd.R_append_rows_step Kd.string (w0:=w) w.heap.size (by rfl) (.tmp 69) (.tmp 72) 23 9 (.string ⟨#[]⟩) 16 rfl Tryz.underlying23 info9 rfl (by decide) (by omega) v279 y278 y281 _ _ _ (fun k_=>some k_≠(.slice Ao8 x6_1.length co8:Value).ownBlock) (fun _=>False) rfl rfl ?aO ?aR (fun _ _ h=>h) (fun _ h=>h.elim) ?aF ?aB ?aS ?aL ?_
                              (case aR=>repeat (first|exact (by repeat (first|(with_reducible exact HR284.out)|(with_reducible refine Kd.C_alloc ?_ _)|(with_reducible refine Kd.C_drewN ?_ _)|(with_reducible refine Kd.C_drew ?_)|exact HR284.out))|(with_reducible refine Kd.C_alloc ?_ _)|(with_reducible refine Kd.C_drewN ?_ _)|(with_reducible refine Kd.C_drew ?_)))
                              (case aB=>exact (by repeat (first|(with_reducible first|exact HB.out|apply below_alloc|apply pw_below_drewN|apply below_drew1)|exact HB.out)))
                              (case aF=>exact (fun k_ hk=>Kd.fresh' (Kd.R_lt (by (with_reducible repeat (first|apply Kd.R_alloc|apply Kd.R_drewN|apply Kd.R_drew));exact HO_6.out)) k_ hk))
                              (case aO=>exact (by (with_reducible repeat (first|apply Kd.R_alloc|apply Kd.R_drewN|apply Kd.R_drew));exact Kd.R_mono HO280.out (fun _ hk=>hk.2)))
                              (case aS=>exact (below_size (by repeat (first|(with_reducible first|exact HB.out|apply below_alloc|apply pw_below_drewN|apply below_drew1)|exact HB.out))))
                              (case aL=>have:=LMc44.out;omega)
                              intro v286 w55 ho hb hg hat;rw [←Ny285.out] at ho;have n0_:=Aside0.mk (Kd.R_after (ok:=(fun _=>True)) (by (with_reducible repeat (first|apply Kd.R_alloc|apply Kd.R_drewN|apply Kd.R_drew));exact HO_6.out) hg hat);have n1_:=Aside0.mk (hb);have n2_:=Aside0.mk ((show Kd.C Kd.string w55 A52 y281.length y281 from by rw [Ny281.out,KA52.out];exact Kd.C_drop (m:=(x8_2:Int).toNat) (c:=co8) ((Kd.R_reads' (Kd.R_after (ok:=(fun _=>True)) (by (with_reducible repeat (first|apply Kd.R_alloc|apply Kd.R_drewN|apply Kd.R_drew));exact HO_6.out) hg hat)).2.2) KL52.out ((Kd.R_reads' (Kd.R_after (ok:=(fun _=>True)) (by (with_reducible repeat (first|apply Kd.R_alloc|apply Kd.R_drewN|apply Kd.R_drew));exact HO_6.out) hg hat)).2.1)));have n3_:=Aside0.mk (ho);clear HO_6 HB HR284 HO280;have HO_6:=n0_;have HB:=n1_;have HR284:=n2_;have HO287:=n3_;clear n0_ n1_ n2_ n3_ ho hb hg hat;refine hK.out _ _ ⟨((HB.out.cell (World.block_lt_of_cell? w _ hw277_0)).trans hw277_0),((HB.out.cell (World.block_lt_of_cell? w _ hw277_1)).trans hw277_1),((HB.out.cell (World.block_lt_of_cell? w _ hw277_2)).trans hw277_2),((HB.out.cell (World.block_lt_of_cell? w _ hw277_3)).trans hw277_3)⟩ (fun hHeld=>?_);clear hK K;refine norm_ (a':=?_) ?_ ?_;rotate_left
                              · show Act.put _ (some 73) _=_;simp only [Act.put,List.setIfInBounds_toArray,List.set_cons_zero,List.set_cons_succ,i64_w,i32_w];rfl
                              refine pure_ (i:=10) (N:=some 9) (v:=?_) (a':=?_) #[true,true,true,true,true,true,true,true,true,true,true] rfl rfl (any_of HT_.out (by kernel_rfl)) (fun _ _ _ h=>h) (Or.inl ⟨by rfl,?_⟩) ?_ ?_;rotate_left
                              · intro w';go_simp
                                with_reducible rfl
                              rotate_left
                              · simp only [Act.put,List.setIfInBounds_toArray,List.set_cons_zero,List.set_cons_succ,i64_w,i32_w];rfl
                              refine done_ (done_of HT_.out (by kernel_rfl)) ?_
                              try go_wp2_with (first|((with_reducible refine gate_dst (N:=74) rfl ?_);refine Kd.R_lit Kd.string _ 9 ?hg (N:=74) ?hd (xs:=([]:List ByteArray)) (inner:=[]) (ok:=fun _=>True) (okp:=fun _=>True) ?hr ?hp (fun _ hk=>hk) trivial (Below.refl _ _) (Nat.le_refl _) (by simp) ?_;(case hd=>rfl);(case hg=>rfl);(case hr=>first|(go_simp;done)|(go_simp;rfl));(case hp=>exact (Reps.none _ _));intro v289 w56 ho57 hb hg_ hnew_;clear hg_ hnew_;(first|rw [←Ny288.out] at ho57|(simp only [Int.reduceToNat] at ho57;rw [←Ny288.out] at ho57));have n0_:=Aside0.mk (Kd.R_elder' (by (with_reducible repeat (first|apply Kd.R_alloc|apply Kd.R_drewN|apply Kd.R_drew));exact HO_6.out) (Kd.R_base ho57) hb);have n1_:=Aside0.mk (Kd.R_elder' (by (with_reducible repeat (first|apply Kd.R_alloc|apply Kd.R_drewN|apply Kd.R_drew));exact HO287.out) (Kd.R_base ho57) hb);have n2_:=Aside0.mk (Kd.R_lower (Kd.R_new' (Kd.R_new' ho57 (Kd.R_lt (by (with_reducible repeat (first|apply Kd.R_alloc|apply Kd.R_drewN|apply Kd.R_drew));exact HO_6.out))) (Kd.R_lt (by (with_reducible repeat (first|apply Kd.R_alloc|apply Kd.R_drewN|apply Kd.R_drew));exact HO287.out))) (below_size (by repeat (first|(with_reducible first|exact HB.out|apply below_alloc|apply pw_below_drewN|apply below_drew1)|exact HB.out))));have n3_:=Aside0.mk (Kd.C_below (by repeat (first|(with_reducible exact HR284.out)|(with_reducible refine Kd.C_alloc ?_ _)|(with_reducible refine Kd.C_drewN ?_ _)|(with_reducible refine Kd.C_drew ?_)|exact HR284.out)) hb);have n4_:=Aside0.mk (below_step (by repeat (first|(with_reducible first|exact HB.out|apply below_alloc|apply pw_below_drewN|apply below_drew1)|exact HB.out)) hb);clear HO_6;clear HO287;clear HR284;clear HB;have HO_6:=n0_;have HO287:=n1_;have HO290:=n2_;have HR284:=n3_;have HB:=n4_;clear n0_ n1_ n2_ n3_ n4_;clear hb ho57;have q58:(x8_2:Int)≤((x6_1.length:Int):Int):=of_decide_eq_true (by first|(with_reducible assumption)|assumption);obtain ⟨i058,hi058,_,hsz58,_⟩:=info_parts info9;have hroom58:x6_1.length≤co8:=(Kd.R_reads' HO_6.out).2.1;have hC58:Kd.C Kd.string _ Ao8 x6_1.length x6_1:=(Kd.R_reads' HO_6.out).2.2;have hcut58:=cut_to (P:=Tryz.prog) 23 9 .i64 Tryz.underlying23 hi058 Ao8 x6_1.length co8 x8_2 (of_decide_eq_true (by first|(with_reducible assumption)|assumption)) q58 hroom58;have hr58:=Kd.C_take (m:=(x8_2:Int).toNat) hC58 (by omega);have hy58:y291.length=(x8_2:Int).toNat:=(by rw [Ny291.out,List.length_take];omega);rw [←Ny291.out] at hr58;rw [←hy58] at hcut58;have HR294:=Aside0.mk hr58;have HC294:=Aside0.mk (show y291.length≤co8 from by omega);clear hr58 hC58 hroom58 hi058 hsz58;have KY58:=Aside0.mk hy58;clear hy58;have KL58:=Aside0.mk (show (x8_2:Int).toNat≤x6_1.length from by omega);replace q58:=eq_true q58)|((with_reducible refine gate_builtin (b:= .append) (xs:= #[.tmp 74,.tmp 77]) rfl ?_);at_builtin;refine Kd.R_append_rows Kd.string (w0:=w) w.heap.size rfl (.tmp 74) (.tmp 77) 23 9 (.string ⟨#[]⟩) 16 rfl Tryz.underlying23 info9 rfl (by decide) (by omega) v289 y288 y291 _ _ _ (fun k_=>some k_≠(.slice Ao8 x6_1.length co8:Value).ownBlock∧some k_≠(v286:Value).ownBlock) (fun _=>False) rfl rfl ?aO ?aR (fun _ _ h=>h) (fun _ h=>h.elim) ?aF ?aB ?aS ?aL ?_;(case aR=>repeat (first|exact (by repeat (first|(with_reducible exact HR294.out)|(with_reducible refine Kd.C_alloc ?_ _)|(with_reducible refine Kd.C_drewN ?_ _)|(with_reducible refine Kd.C_drew ?_)|exact HR294.out))|(with_reducible refine Kd.C_alloc ?_ _)|(with_reducible refine Kd.C_drewN ?_ _)|(with_reducible refine Kd.C_drew ?_)));(case aB=>exact (by repeat (first|(with_reducible first|exact HB.out|apply below_alloc|apply pw_below_drewN|apply below_drew1)|exact HB.out)));(case aF=>exact (fun k_ hk=>⟨Kd.fresh' (Kd.R_lt (by (with_reducible repeat (first|apply Kd.R_alloc|apply Kd.R_drewN|apply Kd.R_drew));exact HO_6.out)) k_ hk,Kd.fresh' (Kd.R_lt (by (with_reducible repeat (first|apply Kd.R_alloc|apply Kd.R_drewN|apply Kd.R_drew));exact HO287.out)) k_ hk⟩));(case aO=>exact (by (with_reducible repeat (first|apply Kd.R_alloc|apply Kd.R_drewN|apply Kd.R_drew));exact Kd.R_mono HO290.out (fun _ hk=>⟨hk.1.2,hk.2⟩)));(case aS=>exact (below_size (by repeat (first|(with_reducible first|exact HB.out|apply below_alloc|apply pw_below_drewN|apply below_drew1)|exact HB.out))));(case aL=>have:=LMc47.out;omega);intro v296 w59 ho hb hg hat;rw [←Ny295.out] at ho;have n0_:=Aside0.mk (Kd.R_after (ok:=(fun k_=>some k_≠(v286:Value).ownBlock)) (by (with_reducible repeat (first|apply Kd.R_alloc|apply Kd.R_drewN|apply Kd.R_drew));exact Kd.R_mono HO_6.out (fun _ hk=>⟨hk.1.2,hk.2⟩)) hg hat);have n1_:=Aside0.mk (Kd.R_after (ok:=(fun k_=>some k_≠(.slice Ao8 x6_1.length co8:Value).ownBlock)) (by (with_reducible repeat (first|apply Kd.R_alloc|apply Kd.R_drewN|apply Kd.R_drew));exact HO287.out) hg hat);have n2_:=Aside0.mk (hb);have n3_:=Aside0.mk ((show Kd.C Kd.string w59 A52 y281.length y281 from by rw [Ny281.out,KA52.out];exact Kd.C_drop (m:=(x8_2:Int).toNat) (c:=co8) ((Kd.R_reads' (Kd.R_after (ok:=(fun k_=>some k_≠(v286:Value).ownBlock)) (by (with_reducible repeat (first|apply Kd.R_alloc|apply Kd.R_drewN|apply Kd.R_drew));exact Kd.R_mono HO_6.out (fun _ hk=>⟨hk.1.2,hk.2⟩)) hg hat)).2.2) KL52.out ((Kd.R_reads' (Kd.R_after (ok:=(fun k_=>some k_≠(v286:Value).ownBlock)) (by (with_reducible repeat (first|apply Kd.R_alloc|apply Kd.R_drewN|apply Kd.R_drew));exact Kd.R_mono HO_6.out (fun _ hk=>⟨hk.1.2,hk.2⟩)) hg hat)).2.1)));have n4_:=Aside0.mk ((show Kd.C Kd.string w59 Ao8 y291.length y291 from by rw [Ny291.out];exact Kd.C_take (m:=(x8_2:Int).toNat) ((Kd.R_reads' (Kd.R_after (ok:=(fun k_=>some k_≠(v286:Value).ownBlock)) (by (with_reducible repeat (first|apply Kd.R_alloc|apply Kd.R_drewN|apply Kd.R_drew));exact Kd.R_mono HO_6.out (fun _ hk=>⟨hk.1.2,hk.2⟩)) hg hat)).2.2) KL58.out));have n5_:=Aside0.mk (ho);clear HO_6;clear HO287;clear HB;clear HR284;clear HR294;clear HO290;have HO_6:=n0_;have HO287:=n1_;have HB:=n2_;have HR284:=n3_;have HR294:=n4_;have HO297:=n5_;clear n0_ n1_ n2_ n3_ n4_ n5_;clear ho hb hg hat;obtain ⟨Ao61,co61,eo61⟩:=Kd.R_slice HO287.out;subst eo61)|((with_reducible refine gate_builtin (b:= .append) (xs:= #[.tmp 78,.tmp 79]) rfl ?_);at_builtin;refine Kd.R_append_rows Kd.string (w0:=w) w.heap.size rfl (.tmp 78) (.tmp 79) 23 9 (.string ⟨#[]⟩) 16 rfl Tryz.underlying23 info9 rfl (by decide) (by omega) v296 y295 y285 _ _ _ (fun k_=>some k_≠(.slice Ao8 x6_1.length co8:Value).ownBlock∧some k_≠(.slice Ao61 y285.length co61:Value).ownBlock) (fun _=>False) rfl rfl ?aO ?aR (fun _ _ h=>h) (fun _ h=>h.elim) ?aF ?aB ?aS ?aL ?_;(case aR=>repeat (first|exact (Kd.R_reads' HO287.out).2.2|(with_reducible refine Kd.C_alloc ?_ _)|(with_reducible refine Kd.C_drewN ?_ _)|(with_reducible refine Kd.C_drew ?_)));(case aB=>exact (by repeat (first|(with_reducible first|exact HB.out|apply below_alloc|apply pw_below_drewN|apply below_drew1)|exact HB.out)));(case aF=>exact (fun k_ hk=>⟨Kd.fresh' (Kd.R_lt (by (with_reducible repeat (first|apply Kd.R_alloc|apply Kd.R_drewN|apply Kd.R_drew));exact HO_6.out)) k_ hk,Kd.fresh' (Kd.R_lt (by (with_reducible repeat (first|apply Kd.R_alloc|apply Kd.R_drewN|apply Kd.R_drew));exact HO287.out)) k_ hk⟩));(case aO=>exact (by (with_reducible repeat (first|apply Kd.R_alloc|apply Kd.R_drewN|apply Kd.R_drew));exact HO297.out));(case aS=>exact (below_size (by repeat (first|(with_reducible first|exact HB.out|apply below_alloc|apply pw_below_drewN|apply below_drew1)|exact HB.out))));(case aL=>have:=LMc48.out;omega);intro v299 w60 ho hb hg hat;rw [←Ny298.out] at ho;have n0_:=Aside0.mk (Kd.R_after (ok:=(fun k_=>some k_≠(.slice Ao61 y285.length co61:Value).ownBlock)) (by (with_reducible repeat (first|apply Kd.R_alloc|apply Kd.R_drewN|apply Kd.R_drew));exact HO_6.out) hg hat);have n1_:=Aside0.mk (Kd.R_after (ok:=(fun k_=>some k_≠(.slice Ao8 x6_1.length co8:Value).ownBlock)) (by (with_reducible repeat (first|apply Kd.R_alloc|apply Kd.R_drewN|apply Kd.R_drew));exact HO287.out) hg hat);have n2_:=Aside0.mk (hb);have n3_:=Aside0.mk ((show Kd.C Kd.string w60 A52 y281.length y281 from by rw [Ny281.out,KA52.out];exact Kd.C_drop (m:=(x8_2:Int).toNat) (c:=co8) ((Kd.R_reads' (Kd.R_after (ok:=(fun k_=>some k_≠(.slice Ao61 y285.length co61:Value).ownBlock)) (by (with_reducible repeat (first|apply Kd.R_alloc|apply Kd.R_drewN|apply Kd.R_drew));exact HO_6.out) hg hat)).2.2) KL52.out ((Kd.R_reads' (Kd.R_after (ok:=(fun k_=>some k_≠(.slice Ao61 y285.length co61:Value).ownBlock)) (by (with_reducible repeat (first|apply Kd.R_alloc|apply Kd.R_drewN|apply Kd.R_drew));exact HO_6.out) hg hat)).2.1)));have n4_:=Aside0.mk ((show Kd.C Kd.string w60 Ao8 y291.length y291 from by rw [Ny291.out];exact Kd.C_take (m:=(x8_2:Int).toNat) ((Kd.R_reads' (Kd.R_after (ok:=(fun k_=>some k_≠(.slice Ao61 y285.length co61:Value).ownBlock)) (by (with_reducible repeat (first|apply Kd.R_alloc|apply Kd.R_drewN|apply Kd.R_drew));exact HO_6.out) hg hat)).2.2) KL58.out));have n5_:=Aside0.mk (ho);clear HO_6;clear HO287;clear HB;clear HR284;clear HR294;clear HO297;have HO_6:=n0_;have HO287:=n1_;have HB:=n2_;have HR284:=n3_;have HR294:=n4_;have HO300:=n5_;clear n0_ n1_ n2_ n3_ n4_ n5_;clear ho hb hg hat))
                              go_roundg k2
                              case measure=>have:=HK1.out;have:=HK2.out;omega
                              case rel=>exact ⟨(y298),(wrap64 (x7_1+1)),(by first|rfl|(simp;done)|(simp [*];done)),H',⟨by have:=HK1.out;have:=HK2.out;omega⟩,⟨by (with_reducible repeat (first|apply Kd.R_alloc|apply Kd.R_drewN|apply Kd.R_drew));exact Kd.R_mono HO300.out (fun _ hk=>trivial)⟩,⟨by repeat (first|(with_reducible first|exact HB.out|apply below_alloc|apply pw_below_drewN|apply below_drew1)|exact HB.out)⟩⟩
                            · rw [if_neg c48] at H;exact absurd H (by simp)
                          · rw [if_neg c47] at H;exact absurd H (by simp)
                        · rw [if_neg c44] at H;exact absurd H (by simp)
                      · rw [if_neg c43] at H;exact absurd H (by simp)
                    · rw [if_neg c42] at H;exact absurd H (by simp)
                  · rw [if_neg c41] at H;exact absurd H (by simp)
                · rw [if_neg c40] at H;exact absurd H (by simp)
         · rw [if_neg c7] at H;have c7b0:(((rd_T40 l0 x7_1).f0)==3)=false:=beq_eq_false_iff_ne.mpr c7;have c7b1:(((rd_T40 l0 x7_1).f0) != 3)=true:=bne_iff_ne.mpr c7;have H':=Aside0.mk H;clear H;have p248:0≤(x7_1:Int):=of_decide_eq_true (by first|(with_reducible assumption)|assumption);have q248:x7_1<(l0.length:Int):=of_decide_eq_true (by first|(with_reducible assumption)|assumption);obtain ⟨ad248,e248,hx248_0,hx248_1,hx248_2,hx248_3⟩:=at_T40 HR0.out x7_1 p248 q248;cases e248;replace hx248_0:=(HB.out.cell (World.block_lt_of_cell? w _ hx248_0)).trans hx248_0;replace hx248_1:=(HB.out.cell (World.block_lt_of_cell? w _ hx248_1)).trans hx248_1;replace hx248_2:=(HB.out.cell (World.block_lt_of_cell? w _ hx248_2)).trans hx248_2;replace hx248_3:=(HB.out.cell (World.block_lt_of_cell? w _ hx248_3)).trans hx248_3;replace p248:=eq_true p248;replace q248:=eq_true q248;go_wp2;go_roundg k1
           case measure=>have:=HK1.out;omega
           case rel=>exact ⟨(x6_1),(wrap64 (x7_1+1)),(by first|rfl|(simp;done)|(simp [*];done)),H',⟨by have:=HK1.out;omega⟩,⟨by (with_reducible repeat (first|apply Kd.R_alloc|apply Kd.R_drewN|apply Kd.R_drew));exact HO_6.out⟩,⟨by repeat (first|(with_reducible first|exact HB.out|apply below_alloc|apply pw_below_drewN|apply below_drew1)|exact HB.out)⟩⟩
       · rw [if_neg c6] at H;exact absurd H (by simp)
     · rw [if_neg c5] at H;have c5b0:decide (x7_1<(l0.length:Int))=false:=decide_eq_false c5;clear c5;simp only [Option.some.injEq,Prod.mk.injEq] at H;obtain ⟨rfl,rfl⟩:=H;go_wp2;go_ret2;exact ⟨_,by first|rfl|(simp [errW_none,errW_some]<;>rfl)|(simp [*, errW_none,errW_some]<;>rfl),by (with_reducible repeat (first|apply Kd.R_alloc|apply Kd.R_drewN|apply Kd.R_drew));exact HO_6.out,by repeat (first|(with_reducible first|exact HB.out|apply below_alloc|apply pw_below_drewN|apply below_drew1)|exact HB.out)⟩
 · rw [if_neg c3] at H;have c3b0:(t247==0)=false:=beq_eq_false_iff_ne.mpr c3;have c3b1:(t247 != 0)=true:=bne_iff_ne.mpr c3;simp only [Option.some.injEq,Prod.mk.injEq] at H;obtain ⟨rfl,rfl⟩:=H;go_enter Tryz.func10,Tryz.ntmps10
   go_wp2_with (first|((with_reducible refine gate_callee (f:=25) rfl ?_);refine goesL_ (some 12) rfl rfl Tryz.func25 (by kernel_rfl) rfl #[.slice A0 l0.length c0] rfl (by (try simp only [List.map_toArray,List.map_cons,List.map_nil]);first|done|rfl|(simp only [List.length_drop,List.length_take];rfl)) ?_;(with_reducible refine (mummerref04_Check.calls k _ _ l0 t246 t247 _ ?side1 ?side2 A2.out).mono ?_);(case side1=>repeat (first|exact HR0.out|(with_reducible refine Kd.C_alloc ?_ _)|(with_reducible refine Kd.C_drewN ?_ _)|(with_reducible refine Kd.C_drew ?_)));(case side2=>exact HC0.out);rintro e w62 ⟨rfl,hb⟩;refine ⟨_,rfl,?_⟩;have n0_:=Aside0.mk (below_step (by repeat (first|(with_reducible first|exact HB.out|apply below_alloc|apply pw_below_drewN|apply below_drew1)|exact HB.out)) hb);clear HB;have HB:=n0_;clear n0_;(try clear hb);(try clear hb2);(try clear hk);(try clear hi)))
   go_ret2;exact ⟨_,by first|rfl|(simp [errW_none,errW_some]<;>rfl)|(simp [*, errW_none,errW_some]<;>rfl),by first|exact Kd.R_nil _ _ _ _ _|exact Kd.N_nil _ _ _ _ _|exact Kd.V_nil _ _ _ _ _|exact Kd.Q_nil _ _ _ _ _|exact Kd.S_nil _ _ _ _ _,by repeat (first|(with_reducible first|exact HB.out|apply below_alloc|apply pw_below_drewN|apply below_drew1)|exact HB.out)⟩
end Go.Proofs.YtgmiekggdgmhkaaGreatDoor.Q
end
section
namespace Go.Proofs.YtgmiekggdgmhkaaGreatDoor.Q
open Go.RowKit Go.Proofs.YtgmiekggdgmhkaaGreatDoorW.PrintWords Go.Proofs.YtgmiekggdgmhkaaGreatDoorW.PrintLast Go.Proofs.YtgmiekggdgmhkaaGreatDoorW.PrintMore
attribute [local go_sem] max2_int min2_int max_two min_two max_three min_three max_four min_four
set_option linter.unusedVariables false
set_option linter.unusedSimpArgs false
mutual
def mummerref04_Rename.l0:Nat→List (S40)→List ByteArray→List ByteArray→Int→Option ((List (S40))×Int)
 |0,_,_,_,_=>none
 |k+1,x0,x1,x2,x10=>if x10<(x1.length:Int) then (if 0≤x10 then ((mummerref04_Symbol.f (rdOf ByteArray.empty x1 x10)).bind fun t307=>(if t307=true then (if x10<(x2.length:Int) then ((mummerref04_Symbol.f (rdOf ByteArray.empty x2 x10)).bind fun t309=>(if t309=true then (mummerref04_Rename.l0 k x0 x1 x2 (wrap64 (x10+1))) else (some (([]:List (S40)),6)))) else (none)) else (some (([]:List (S40)),6)))) else (none)) else (mummerref04_Rename.l1 k x0 x1 x2 0)
def mummerref04_Rename.l1:Nat→List (S40)→List ByteArray→List ByteArray→Int→Option ((List (S40))×Int)
 |0,_,_,_,_=>none
 |k+1,x0,x1,x2,x11=>if x11<(x1.length:Int) then (if 0≤x11 then ((mummerref04_place.f k x1 (rdOf ByteArray.empty x1 x11)).bind fun t311=>(if t311<x11 then (some (([]:List (S40)),8)) else (mummerref04_Rename.l1 k x0 x1 x2 (wrap64 (x11+1))))) else (none)) else ((some (([]:List (S40)):List (S40))).bind fun y312=>(if y312.length+x0.length<3518437208883 then (mummerref04_Rename.l2 k x1 x2 (y312++x0) 0) else (none)))
def mummerref04_Rename.l2:Nat→List ByteArray→List ByteArray→List (S40)→Int→Option ((List (S40))×Int)
 |0,_,_,_,_=>none
 |k+1,x1,x2,x12,x13=>if x13<(x12.length:Int) then (if 0≤x13 then ((mummerref04_place.f k x1 ((rd_T40 x12 x13).f3)).bind fun t319=>(if ((rd_T40 x12 x13).f0)=3 then (if t319≥0 then (if 0≤t319 then (if t319<(x2.length:Int) then (mummerref04_Rename.l2 k x1 x2 (x12.set (x13:Int).toNat (⟨(rd_T40 x12 x13).f0,(rd_T40 x12 x13).f1,(rd_T40 x12 x13).f2,rdOf ByteArray.empty x2 t319⟩:S40)) (wrap64 (x13+1))) else (none)) else (none)) else (mummerref04_Rename.l2 k x1 x2 x12 (wrap64 (x13+1)))) else (mummerref04_Rename.l2 k x1 x2 x12 (wrap64 (x13+1))))) else (none)) else (some (x12,0))
end
def mummerref04_Rename.f (k:Nat) (l0:List (S40)) (l1:List ByteArray) (l2:List ByteArray):Option ((List (S40))×Int):=(mummerref04_Check.f k l0).bind fun bt304=>(if bt304.2=0 then (if (l1.length:Int)=(l2.length:Int) then (mummerref04_Rename.l0 k l0 l1 l2 0) else (some (([]:List (S40)),2))) else (some (([]:List (S40)),bt304.2)))
set_option maxHeartbeats 8000000 in
set_option maxRecDepth 100000 in
theorem mummerref04_Rename.calls (k:Nat) (A0:Option Addr) (c0:Nat) (l0:List (S40)) (A1:Option Addr) (c1:Nat) (l1:List ByteArray) (A2:Option Addr) (c2:Nat) (l2:List ByteArray) (r1:List (S40)) (r2:Int) (w:World) (hr0:Kd.C k40 w A0 l0.length l0) (hc0:l0.length≤c0) (hr1:Kd.C Kd.string w A1 l1.length l1) (hc1:l1.length≤c1) (hr2:Kd.C Kd.string w A2 l2.length l2) (hc2:l2.length≤c2) (h:mummerref04_Rename.f k l0 l1 l2=some (r1,r2)):
 Calls Tryz.prog 13 #[.slice A0 l0.length c0,.slice A1 l1.length c1,.slice A2 l2.length c2] w fun e w'=> ∃v0_:Value,e= .returned (.tuple #[v0_,.int .i64 r2])∧Kd.R k40 40 w' w.heap.size (fun _=>True) v0_ r1∧Below w.heap.size w w':=by
 have HR0:=Aside0.mk hr0;have HC0:=Aside0.mk hc0;clear hr0 hc0;have HR1:=Aside0.mk hr1;have HC1:=Aside0.mk hc1;clear hr1 hc1;have HR2:=Aside0.mk hr2;have HC2:=Aside0.mk hc2;clear hr2 hc2;have HB:=Aside0.mk (Below.refl w.heap.size w);have H:((mummerref04_Check.f k l0).bind fun bt304=>(if bt304.2=0 then (if (l1.length:Int)=(l2.length:Int) then (mummerref04_Rename.l0 k l0 l1 l2 0) else (some (([]:List (S40)),2))) else (some (([]:List (S40)),bt304.2))))=some (r1,r2):=h;clear h;replace H:=Option.bind_eq_some_iff.mp H;obtain ⟨⟨t304,t305⟩,A40,H⟩:=H;replace H:(if t305=0 then (if (l1.length:Int)=(l2.length:Int) then (mummerref04_Rename.l0 k l0 l1 l2 0) else (some (([]:List (S40)),2))) else (some (([]:List (S40)),t305)))=some (r1,r2):=H;have A4:=Aside0.mk A40;clear A40;by_cases c5:t305=0
 · rw [if_pos c5] at H;have c5b0:(t305==0)=true:=beq_iff_eq.mpr c5;have c5b1:(t305 != 0)=false:=bne_eq_false_iff_eq.mpr c5;clear c5
   by_cases c6:(l1.length:Int)=(l2.length:Int)
   · rw [if_pos c6] at H;have c6b0:((l1.length:Int)==(l2.length:Int))=true:=beq_iff_eq.mpr c6;have c6b1:((l1.length:Int) != (l2.length:Int))=false:=bne_eq_false_iff_eq.mpr c6
     have c6b2:(l1.length==l2.length)=true:=by first|simpa using c6|(simp at c6 ⊢; omega)
     clear c6;have H':=Aside0.mk H;clear H;go_enter Tryz.func13,Tryz.ntmps13
     go_wp2_with (first|((with_reducible refine gate_callee (f:=25) rfl ?_);refine goesL_ (some 17) rfl rfl Tryz.func25 (by kernel_rfl) rfl #[.slice A0 l0.length c0] rfl (by (try simp only [List.map_toArray,List.map_cons,List.map_nil]);first|done|rfl|(simp only [List.length_drop,List.length_take];rfl)) ?_;(with_reducible refine (mummerref04_Check.calls k _ _ l0 t304 t305 _ ?side1 ?side2 A4.out).mono ?_);(case side1=>repeat (first|exact HR0.out|(with_reducible refine Kd.C_alloc ?_ _)|(with_reducible refine Kd.C_drewN ?_ _)|(with_reducible refine Kd.C_drew ?_)));(case side2=>exact HC0.out);rintro e w7 ⟨rfl,hb⟩;refine ⟨_,rfl,?_⟩;have n0_:=Aside0.mk (below_step (by repeat (first|(with_reducible first|exact HB.out|apply below_alloc|apply pw_below_drewN|apply below_drew1)|exact HB.out)) hb);clear HB;have HB:=n0_;clear n0_;(try clear hb);(try clear hb2);(try clear hk);(try clear hi)))
     go_loopg [10] k (fun kq v10 w'=> ∃(x10_1:Int),v10= .int .i64 x10_1∧Aside0 (mummerref04_Rename.l0 kq l0 l1 l2 x10_1=some (r1,r2))∧Aside0 (kq≤k)∧Aside0 (Below w.heap.size w w'))
     case atStart=>exact ⟨(0),(by first|rfl|(simp;done)|(simp [*];done)),H',⟨Nat.le_refl _⟩,⟨by repeat (first|(with_reducible first|exact HB.out|apply below_alloc|apply pw_below_drewN|apply below_drew1)|exact HB.out)⟩⟩
     case round=>
       clear H'
       try clear c1
       try clear c2
       try clear p2
       try clear c5
       try clear c5b0
       try clear c5b1
       try clear c6
       try clear c6b0
       try clear c6b1
       try clear c6b2
       obtain ⟨x10_1,rfl,HA,HK1,HB⟩:=hrel
       cases gk with
       |zero=>exact absurd HA.out (by simp [mummerref04_Rename.l0])
       |succ k1=>
        have H:=HA.out;clear HA;simp only [mummerref04_Rename.l0] at H;by_cases c8:x10_1<(l1.length:Int)
        · rw [if_pos c8] at H;have c8b0:decide (x10_1<(l1.length:Int))=true:=decide_eq_true c8;clear c8;by_cases c9:0≤x10_1
          · rw [if_pos c9] at H;have c9b0:decide (0≤x10_1)=true:=decide_eq_true c9;clear c9;replace H:=Option.bind_eq_some_iff.mp H;obtain ⟨t307,A100,H⟩:=H;replace H:(if t307=true then (if x10_1<(l2.length:Int) then ((mummerref04_Symbol.f (rdOf ByteArray.empty l2 x10_1)).bind fun t309=>(if t309=true then (mummerref04_Rename.l0 k1 l0 l1 l2 (wrap64 (x10_1+1))) else (some (([]:List (S40)),6)))) else (none)) else (some (([]:List (S40)),6)))=some (r1,r2):=H;have A10:=Aside0.mk A100;clear A100;by_cases c11:t307=true
            · subst c11
              have H1:(if x10_1<(l2.length:Int) then ((mummerref04_Symbol.f (rdOf ByteArray.empty l2 x10_1)).bind fun t309=>(if t309=true then (mummerref04_Rename.l0 k1 l0 l1 l2 (wrap64 (x10_1+1))) else (some (([]:List (S40)),6)))) else (none))=some (r1,r2):=by rw [if_pos rfl] at H;exact H
              clear H;have H:=H1;clear H1;by_cases c12:x10_1<(l2.length:Int)
              · rw [if_pos c12] at H;have c12b0:decide (x10_1<(l2.length:Int))=true:=decide_eq_true c12;clear c12;replace H:=Option.bind_eq_some_iff.mp H;obtain ⟨t309,A130,H⟩:=H;replace H:(if t309=true then (mummerref04_Rename.l0 k1 l0 l1 l2 (wrap64 (x10_1+1))) else (some (([]:List (S40)),6)))=some (r1,r2):=H;have A13:=Aside0.mk A130;clear A130;by_cases c14:t309=true
                · subst c14
                  have H1:(mummerref04_Rename.l0 k1 l0 l1 l2 (wrap64 (x10_1+1)))=some (r1,r2):=by rw [if_pos rfl] at H;exact H
                  clear H;have H:=H1;clear H1;have H':=Aside0.mk H;clear H;have p306:0≤(x10_1:Int):=of_decide_eq_true (by first|(with_reducible assumption)|assumption);have q306:x10_1<(l1.length:Int):=of_decide_eq_true (by first|(with_reducible assumption)|assumption);obtain ⟨ad306,e306,hx306_0⟩:=Kd.at_string HR1.out x10_1 p306 q306;cases e306;replace hx306_0:=(HB.out.cell (World.block_lt_of_cell? w _ hx306_0)).trans hx306_0;replace p306:=eq_true p306;replace q306:=eq_true q306
                  go_wp2_with (first|((with_reducible refine gate_callee (f:=34) rfl ?_);refine goesL_ (some 38) rfl rfl Tryz.func34 (by kernel_rfl) rfl #[.string (rdOf ByteArray.empty l1 x10_1)] rfl (by (try simp only [List.map_toArray,List.map_cons,List.map_nil]);first|done|rfl|(simp only [List.length_drop,List.length_take];rfl)) ?_;(with_reducible refine (mummerref04_Symbol.calls (rdOf ByteArray.empty l1 x10_1) true _ A10.out).mono ?_);rintro e w15 ⟨rfl,hb⟩;refine ⟨_,rfl,?_⟩;have n0_:=Aside0.mk (below_step (by repeat (first|(with_reducible first|exact HB.out|apply below_alloc|apply pw_below_drewN|apply below_drew1)|exact HB.out)) hb);clear HB;have HB:=n0_;clear n0_;(try clear hb);(try clear hb2);(try clear hk);(try clear hi);have p308:0≤(x10_1:Int):=of_decide_eq_true (by first|(with_reducible assumption)|assumption);have q308:x10_1<(l2.length:Int):=of_decide_eq_true (by first|(with_reducible assumption)|assumption);obtain ⟨ad308,e308,hx308_0⟩:=Kd.at_string HR2.out x10_1 p308 q308;cases e308;replace hx308_0:=(HB.out.cell (World.block_lt_of_cell? w _ hx308_0)).trans hx308_0;replace p308:=eq_true p308;replace q308:=eq_true q308)|(go_at_call 34;(with_reducible refine (mummerref04_Symbol.calls (rdOf ByteArray.empty l2 x10_1) true _ A13.out).mono ?_);rintro e w16 ⟨rfl,hb⟩;have n0_:=Aside0.mk (below_step (by repeat (first|(with_reducible first|exact HB.out|apply below_alloc|apply pw_below_drewN|apply below_drew1)|exact HB.out)) hb);clear HB;have HB:=n0_;clear n0_;(try clear hb);(try clear hb2);(try clear hk);(try clear hi)))
                  go_roundg k1
                  case measure=>have:=HK1.out;omega
                  case rel=>exact ⟨(wrap64 (x10_1+1)),(by first|rfl|(simp;done)|(simp [*];done)),H',⟨by have:=HK1.out;omega⟩,⟨by repeat (first|(with_reducible first|exact HB.out|apply below_alloc|apply pw_below_drewN|apply below_drew1)|exact HB.out)⟩⟩
                · replace c14:=Bool.eq_false_iff.mpr c14;subst c14
                  have H1:(some (([]:List (S40)),6))=some (r1,r2):=by rw [if_neg (show ¬(false=true) by decide)] at H;exact H
                  clear H;have H:=H1;clear H1;simp only [Option.some.injEq,Prod.mk.injEq] at H;obtain ⟨rfl,rfl⟩:=H;have p306:0≤(x10_1:Int):=of_decide_eq_true (by first|(with_reducible assumption)|assumption);have q306:x10_1<(l1.length:Int):=of_decide_eq_true (by first|(with_reducible assumption)|assumption);obtain ⟨ad306,e306,hx306_0⟩:=Kd.at_string HR1.out x10_1 p306 q306;cases e306;replace hx306_0:=(HB.out.cell (World.block_lt_of_cell? w _ hx306_0)).trans hx306_0;replace p306:=eq_true p306;replace q306:=eq_true q306
                  go_wp2_with (first|((with_reducible refine gate_callee (f:=34) rfl ?_);refine goesL_ (some 38) rfl rfl Tryz.func34 (by kernel_rfl) rfl #[.string (rdOf ByteArray.empty l1 x10_1)] rfl (by (try simp only [List.map_toArray,List.map_cons,List.map_nil]);first|done|rfl|(simp only [List.length_drop,List.length_take];rfl)) ?_;(with_reducible refine (mummerref04_Symbol.calls (rdOf ByteArray.empty l1 x10_1) true _ A10.out).mono ?_);rintro e w17 ⟨rfl,hb⟩;refine ⟨_,rfl,?_⟩;have n0_:=Aside0.mk (below_step (by repeat (first|(with_reducible first|exact HB.out|apply below_alloc|apply pw_below_drewN|apply below_drew1)|exact HB.out)) hb);clear HB;have HB:=n0_;clear n0_;(try clear hb);(try clear hb2);(try clear hk);(try clear hi);have p308:0≤(x10_1:Int):=of_decide_eq_true (by first|(with_reducible assumption)|assumption);have q308:x10_1<(l2.length:Int):=of_decide_eq_true (by first|(with_reducible assumption)|assumption);obtain ⟨ad308,e308,hx308_0⟩:=Kd.at_string HR2.out x10_1 p308 q308;cases e308;replace hx308_0:=(HB.out.cell (World.block_lt_of_cell? w _ hx308_0)).trans hx308_0;replace p308:=eq_true p308;replace q308:=eq_true q308)|(go_at_call 34;(with_reducible refine (mummerref04_Symbol.calls (rdOf ByteArray.empty l2 x10_1) false _ A13.out).mono ?_);rintro e w18 ⟨rfl,hb⟩;have n0_:=Aside0.mk (below_step (by repeat (first|(with_reducible first|exact HB.out|apply below_alloc|apply pw_below_drewN|apply below_drew1)|exact HB.out)) hb);clear HB;have HB:=n0_;clear n0_;(try clear hb);(try clear hb2);(try clear hk);(try clear hi)))
                  go_ret2;exact ⟨_,by first|rfl|(simp [errW_none,errW_some]<;>rfl)|(simp [*, errW_none,errW_some]<;>rfl),by first|exact Kd.R_nil _ _ _ _ _|exact Kd.N_nil _ _ _ _ _|exact Kd.V_nil _ _ _ _ _|exact Kd.Q_nil _ _ _ _ _|exact Kd.S_nil _ _ _ _ _,by repeat (first|(with_reducible first|exact HB.out|apply below_alloc|apply pw_below_drewN|apply below_drew1)|exact HB.out)⟩
              · rw [if_neg c12] at H;exact absurd H (by simp)
            · replace c11:=Bool.eq_false_iff.mpr c11;subst c11
              have H1:(some (([]:List (S40)),6))=some (r1,r2):=by rw [if_neg (show ¬(false=true) by decide)] at H;exact H
              clear H;have H:=H1;clear H1;simp only [Option.some.injEq,Prod.mk.injEq] at H;obtain ⟨rfl,rfl⟩:=H;have p306:0≤(x10_1:Int):=of_decide_eq_true (by first|(with_reducible assumption)|assumption);have q306:x10_1<(l1.length:Int):=of_decide_eq_true (by first|(with_reducible assumption)|assumption);obtain ⟨ad306,e306,hx306_0⟩:=Kd.at_string HR1.out x10_1 p306 q306;cases e306;replace hx306_0:=(HB.out.cell (World.block_lt_of_cell? w _ hx306_0)).trans hx306_0;replace p306:=eq_true p306;replace q306:=eq_true q306
              go_wp2_with (first|((with_reducible refine gate_callee (f:=34) rfl ?_);refine goesL_ (some 38) rfl rfl Tryz.func34 (by kernel_rfl) rfl #[.string (rdOf ByteArray.empty l1 x10_1)] rfl (by (try simp only [List.map_toArray,List.map_cons,List.map_nil]);first|done|rfl|(simp only [List.length_drop,List.length_take];rfl)) ?_;(with_reducible refine (mummerref04_Symbol.calls (rdOf ByteArray.empty l1 x10_1) false _ A10.out).mono ?_);rintro e w19 ⟨rfl,hb⟩;refine ⟨_,rfl,?_⟩;have n0_:=Aside0.mk (below_step (by repeat (first|(with_reducible first|exact HB.out|apply below_alloc|apply pw_below_drewN|apply below_drew1)|exact HB.out)) hb);clear HB;have HB:=n0_;clear n0_;(try clear hb);(try clear hb2);(try clear hk);(try clear hi)))
              go_ret2;exact ⟨_,by first|rfl|(simp [errW_none,errW_some]<;>rfl)|(simp [*, errW_none,errW_some]<;>rfl),by first|exact Kd.R_nil _ _ _ _ _|exact Kd.N_nil _ _ _ _ _|exact Kd.V_nil _ _ _ _ _|exact Kd.Q_nil _ _ _ _ _|exact Kd.S_nil _ _ _ _ _,by repeat (first|(with_reducible first|exact HB.out|apply below_alloc|apply pw_below_drewN|apply below_drew1)|exact HB.out)⟩
          · rw [if_neg c9] at H;exact absurd H (by simp)
        · rw [if_neg c8] at H;have c8b0:decide (x10_1<(l1.length:Int))=false:=decide_eq_false c8;clear c8;have H':=Aside0.mk H;clear H;go_wp2
          go_loopg [11] k1 (fun kq v11 w'=> ∃(x11_2:Int),v11= .int .i64 x11_2∧Aside0 (mummerref04_Rename.l1 kq l0 l1 l2 x11_2=some (r1,r2))∧Aside0 (kq≤k1)∧Aside0 (Below w.heap.size w w'))
          case atStart=>exact ⟨(0),(by first|rfl|(simp;done)|(simp [*];done)),H',⟨Nat.le_refl _⟩,⟨by repeat (first|(with_reducible first|exact HB.out|apply below_alloc|apply pw_below_drewN|apply below_drew1)|exact HB.out)⟩⟩
          case round=>
           clear H'
           try clear c1
           try clear c2
           try clear p2
           try clear c3
           try clear p3
           try clear q3
           try clear hx3
           try clear c5
           try clear c5b0
           try clear c5b1
           try clear c6
           try clear c6b0
           try clear c6b1
           try clear c6b2
           try clear p6
           try clear c8
           try clear c8b0
           try clear c9
           try clear c9b0
           try clear c11
           try clear c12
           try clear c12b0
           try clear c13
           try clear c14
           try clear hx306_0
           try clear hx308_0
           try clear p2
           try clear p306
           try clear p308
           try clear q306
           try clear q308
           obtain ⟨x11_2,rfl,HA,HK2,HB⟩:=hrel
           cases gk with
           |zero=>exact absurd HA.out (by simp [mummerref04_Rename.l1])
           |succ k2=>
            have H:=HA.out;clear HA;simp only [mummerref04_Rename.l1] at H;by_cases c20:x11_2<(l1.length:Int)
            · rw [if_pos c20] at H;have c20b0:decide (x11_2<(l1.length:Int))=true:=decide_eq_true c20;clear c20;by_cases c21:0≤x11_2
              · rw [if_pos c21] at H;have c21b0:decide (0≤x11_2)=true:=decide_eq_true c21;clear c21;replace H:=Option.bind_eq_some_iff.mp H;obtain ⟨t311,A220,H⟩:=H;replace H:(if t311<x11_2 then (some (([]:List (S40)),8)) else (mummerref04_Rename.l1 k2 l0 l1 l2 (wrap64 (x11_2+1))))=some (r1,r2):=H;have A22:=Aside0.mk A220;clear A220;by_cases c23:t311<x11_2
                · rw [if_pos c23] at H;have c23b0:decide (t311<x11_2)=true:=decide_eq_true c23;clear c23;simp only [Option.some.injEq,Prod.mk.injEq] at H;obtain ⟨rfl,rfl⟩:=H;have p310:0≤(x11_2:Int):=of_decide_eq_true (by first|(with_reducible assumption)|assumption);have q310:x11_2<(l1.length:Int):=of_decide_eq_true (by first|(with_reducible assumption)|assumption);obtain ⟨ad310,e310,hx310_0⟩:=Kd.at_string HR1.out x11_2 p310 q310;cases e310;replace hx310_0:=(HB.out.cell (World.block_lt_of_cell? w _ hx310_0)).trans hx310_0;replace p310:=eq_true p310;replace q310:=eq_true q310
                  go_wp2_with (first|((with_reducible refine gate_callee (f:=35) rfl ?_);refine goesL_ (some 59) rfl rfl Tryz.func35 (by kernel_rfl) rfl #[.slice (some ad310) l1.length c1,.string (rdOf ByteArray.empty l1 x11_2)] rfl (by (try simp only [List.map_toArray,List.map_cons,List.map_nil]);first|done|rfl|(simp only [List.length_drop,List.length_take];rfl)) ?_;(with_reducible refine (mummerref04_place.calls k2 _ _ l1 (rdOf ByteArray.empty l1 x11_2) t311 _ ?side1 ?side2 A22.out).mono ?_);(case side1=>repeat (first|exact (Kd.C_below HR1.out HB.out)|(with_reducible refine Kd.C_alloc ?_ _)|(with_reducible refine Kd.C_drewN ?_ _)|(with_reducible refine Kd.C_drew ?_)));(case side2=>exact HC1.out);rintro e w' ⟨rfl,⟨nd,rfl⟩⟩;refine ⟨_,rfl,?_⟩))
                  go_ret2;exact ⟨_,by first|rfl|(simp [errW_none,errW_some]<;>rfl)|(simp [*, errW_none,errW_some]<;>rfl),by first|exact Kd.R_nil _ _ _ _ _|exact Kd.N_nil _ _ _ _ _|exact Kd.V_nil _ _ _ _ _|exact Kd.Q_nil _ _ _ _ _|exact Kd.S_nil _ _ _ _ _,by repeat (first|(with_reducible first|exact HB.out|apply below_alloc|apply pw_below_drewN|apply below_drew1)|exact HB.out)⟩
                · rw [if_neg c23] at H;have c23b0:decide (t311<x11_2)=false:=decide_eq_false c23;clear c23;have H':=Aside0.mk H;clear H;have p310:0≤(x11_2:Int):=of_decide_eq_true (by first|(with_reducible assumption)|assumption);have q310:x11_2<(l1.length:Int):=of_decide_eq_true (by first|(with_reducible assumption)|assumption);obtain ⟨ad310,e310,hx310_0⟩:=Kd.at_string HR1.out x11_2 p310 q310;cases e310;replace hx310_0:=(HB.out.cell (World.block_lt_of_cell? w _ hx310_0)).trans hx310_0;replace p310:=eq_true p310;replace q310:=eq_true q310
                  go_wp2_with (first|((with_reducible refine gate_callee (f:=35) rfl ?_);refine goesL_ (some 59) rfl rfl Tryz.func35 (by kernel_rfl) rfl #[.slice (some ad310) l1.length c1,.string (rdOf ByteArray.empty l1 x11_2)] rfl (by (try simp only [List.map_toArray,List.map_cons,List.map_nil]);first|done|rfl|(simp only [List.length_drop,List.length_take];rfl)) ?_;(with_reducible refine (mummerref04_place.calls k2 _ _ l1 (rdOf ByteArray.empty l1 x11_2) t311 _ ?side1 ?side2 A22.out).mono ?_);(case side1=>repeat (first|exact (Kd.C_below HR1.out HB.out)|(with_reducible refine Kd.C_alloc ?_ _)|(with_reducible refine Kd.C_drewN ?_ _)|(with_reducible refine Kd.C_drew ?_)));(case side2=>exact HC1.out);rintro e w' ⟨rfl,⟨nd,rfl⟩⟩;refine ⟨_,rfl,?_⟩))
                  go_roundg k2
                  case measure=>have:=HK1.out;have:=HK2.out;omega
                  case rel=>exact ⟨(wrap64 (x11_2+1)),(by first|rfl|(simp;done)|(simp [*];done)),H',⟨by have:=HK1.out;have:=HK2.out;omega⟩,⟨by repeat (first|(with_reducible first|exact HB.out|apply below_alloc|apply pw_below_drewN|apply below_drew1)|exact HB.out)⟩⟩
              · rw [if_neg c21] at H;exact absurd H (by simp)
            · rw [if_neg c20] at H;have c20b0:decide (x11_2<(l1.length:Int))=false:=decide_eq_false c20;clear c20
              obtain ⟨y312,hy312⟩: ∃y_:List (S40),y_=(([]:List (S40))):=⟨_,rfl⟩
              replace H:(if y312.length+l0.length<3518437208883 then (mummerref04_Rename.l2 k2 l1 l2 (y312++l0) 0) else (none))=some (r1,r2):=by first|(rw [hy312];with_reducible exact H)|(have H2_:=(Option.bind_some _ _).symm.trans H;rw [hy312];with_reducible exact H2_)|(have H2_:=(Option.bind_some _ _).symm.trans H;with_reducible exact H2_)|with_reducible exact H|(rw [hy312];exact H)|exact H
              have Ny312:=Aside0.mk hy312;clear hy312;by_cases c24:y312.length+l0.length<3518437208883
              · rw [if_pos c24] at H;have LMc24:=Aside0.mk c24;clear c24
                obtain ⟨y315,hy315⟩: ∃y_:List (S40),y_=(y312++l0):=⟨_,rfl⟩
                replace H:(mummerref04_Rename.l2 k2 l1 l2 y315 0)=some (r1,r2):=by first|(rw [hy315];with_reducible exact H)|(have H2_:=(Option.bind_some _ _).symm.trans H;rw [hy315];with_reducible exact H2_)|(have H2_:=(Option.bind_some _ _).symm.trans H;with_reducible exact H2_)|with_reducible exact H|(rw [hy315];exact H)|exact H
                have Ny315:=Aside0.mk hy315;clear hy315;have H':=Aside0.mk H;clear H
                go_wp2_with (first|((with_reducible refine gate_dst (N:=62) rfl ?_);refine Kd.R_lit k40 _ 40 ?hg (N:=62) ?hd (xs:=([]:List (S40))) (inner:=[]) (ok:=fun _=>True) (okp:=fun _=>True) ?hr ?hp (fun _ hk=>hk) trivial (Below.refl _ _) (Nat.le_refl _) (by simp) ?_;(case hd=>rfl);(case hg=>rfl);(case hr=>first|(go_simp;done)|(go_simp;rfl));(case hp=>exact (Reps.none _ _));intro v313 w25 ho26 hb hg_ hnew_;clear hg_ hnew_;(first|rw [←Ny312.out] at ho26|(simp only [Int.reduceToNat] at ho26;rw [←Ny312.out] at ho26));have n0_:=Aside0.mk (Kd.R_lower ho26 (below_size (by repeat (first|(with_reducible first|exact HB.out|apply below_alloc|apply pw_below_drewN|apply below_drew1)|exact HB.out))));have n1_:=Aside0.mk (below_step (by repeat (first|(with_reducible first|exact HB.out|apply below_alloc|apply pw_below_drewN|apply below_drew1)|exact HB.out)) hb);clear HB;have HO314:=n0_;have HB:=n1_;clear n0_ n1_;clear hb ho26)|((with_reducible refine gate_builtin (b:= .append) (xs:= #[.tmp 62,.tmp 63]) rfl ?_);at_builtin;refine Kd.R_append_rows k40 (w0:=w) w.heap.size rfl (.tmp 62) (.tmp 63) 22 40 (.agg #[(.int .i64 0),(.int .i64 0),(.int .i64 0),(.string ⟨#[]⟩)]) 40 rfl Tryz.underlying22 info40 rfl (by decide) (by omega) v313 y312 l0 _ _ _ (fun _=>True) (fun _=>False) rfl rfl ?aO ?aR (fun _ _ h=>h) (fun _ h=>h.elim) ?aF ?aB ?aS ?aL ?_;(case aR=>repeat (first|exact (Kd.C_below HR0.out HB.out)|(with_reducible refine Kd.C_alloc ?_ _)|(with_reducible refine Kd.C_drewN ?_ _)|(with_reducible refine Kd.C_drew ?_)));(case aB=>exact (by repeat (first|(with_reducible first|exact HB.out|apply below_alloc|apply pw_below_drewN|apply below_drew1)|exact HB.out)));(case aF=>exact (fun _ _=>trivial));(case aO=>exact (by (with_reducible repeat (first|apply Kd.R_alloc|apply Kd.R_drewN|apply Kd.R_drew));exact HO314.out));(case aS=>exact (below_size (by repeat (first|(with_reducible first|exact HB.out|apply below_alloc|apply pw_below_drewN|apply below_drew1)|exact HB.out))));(case aL=>have:=LMc24.out;omega);intro v316 w27 ho hb hg hat;rw [←Ny315.out] at ho;have n0_:=Aside0.mk (hb);have n1_:=Aside0.mk (ho);clear HB;clear HO314;have HB:=n0_;have HO317:=n1_;clear n0_ n1_;clear ho hb hg hat))
                go_loopg [13] k2 (fun kq v13 w'=> ∃(x12_3:List (S40)) (x13_3:Int),v13= .int .i64 x13_3∧Aside0 (mummerref04_Rename.l2 kq l1 l2 x12_3 x13_3=some (r1,r2))∧Aside0 (kq≤k2)∧Aside0 (Kd.R k40 40 w' w.heap.size (fun _=>True) v316 x12_3)∧Aside0 (Below w.heap.size w w'))
                case atStart=>exact ⟨(y315),(0),(by first|rfl|(simp;done)|(simp [*];done)),H',⟨Nat.le_refl _⟩,⟨by (with_reducible repeat (first|apply Kd.R_alloc|apply Kd.R_drewN|apply Kd.R_drew));exact HO317.out⟩,⟨by repeat (first|(with_reducible first|exact HB.out|apply below_alloc|apply pw_below_drewN|apply below_drew1)|exact HB.out)⟩⟩
                case round=>
                  clear H'
                  try clear c1
                  try clear c2
                  try clear p2
                  try clear c3
                  try clear p3
                  try clear q3
                  try clear hx3
                  try clear c5
                  try clear c5b0
                  try clear c5b1
                  try clear c6
                  try clear c6b0
                  try clear c6b1
                  try clear c6b2
                  try clear p6
                  try clear c8
                  try clear c8b0
                  try clear c9
                  try clear c9b0
                  try clear c11
                  try clear c12
                  try clear c12b0
                  try clear c13
                  try clear c14
                  try clear c20
                  try clear c20b0
                  try clear c21
                  try clear c21b0
                  try clear c23
                  try clear c23b0
                  try clear c24
                  try clear c25
                  try clear hx306_0
                  try clear hx308_0
                  try clear hx310_0
                  try clear p2
                  try clear p3
                  try clear p306
                  try clear p308
                  try clear p310
                  try clear p6
                  try clear q3
                  try clear q306
                  try clear q308
                  try clear q310
                  obtain ⟨x12_3,x13_3,rfl,HA,HK3,HO_12,HB⟩:=hrel
                  cases gk with
                  |zero=>exact absurd HA.out (by simp [mummerref04_Rename.l2])
                  |succ k3=>
                   have H:=HA.out;clear HA;simp only [mummerref04_Rename.l2] at H;by_cases c28:x13_3<(x12_3.length:Int)
                   · rw [if_pos c28] at H;have c28b0:decide (x13_3<(x12_3.length:Int))=true:=decide_eq_true c28;clear c28;by_cases c29:0≤x13_3
                     · rw [if_pos c29] at H;have c29b0:decide (0≤x13_3)=true:=decide_eq_true c29;clear c29;replace H:=Option.bind_eq_some_iff.mp H;obtain ⟨t319,A300,H⟩:=H;replace H:(if ((rd_T40 x12_3 x13_3).f0)=3 then (if t319≥0 then (if 0≤t319 then (if t319<(l2.length:Int) then (mummerref04_Rename.l2 k3 l1 l2 (x12_3.set (x13_3:Int).toNat (⟨(rd_T40 x12_3 x13_3).f0,(rd_T40 x12_3 x13_3).f1,(rd_T40 x12_3 x13_3).f2,rdOf ByteArray.empty l2 t319⟩:S40)) (wrap64 (x13_3+1))) else (none)) else (none)) else (mummerref04_Rename.l2 k3 l1 l2 x12_3 (wrap64 (x13_3+1)))) else (mummerref04_Rename.l2 k3 l1 l2 x12_3 (wrap64 (x13_3+1))))=some (r1,r2):=H;have A30:=Aside0.mk A300;clear A300;by_cases c31:((rd_T40 x12_3 x13_3).f0)=3
                       · rw [if_pos c31] at H;have c31b0:(((rd_T40 x12_3 x13_3).f0)==3)=true:=beq_iff_eq.mpr c31;have c31b1:(((rd_T40 x12_3 x13_3).f0) != 3)=false:=bne_eq_false_iff_eq.mpr c31;clear c31;by_cases c32:t319≥0
                         · rw [if_pos c32] at H;have c32b0:decide (0≤t319)=true:=decide_eq_true c32;clear c32;by_cases c33:0≤t319
                           · rw [if_pos c33] at H;have c33b0:decide (0≤t319)=true:=decide_eq_true c33;clear c33;by_cases c34:t319<(l2.length:Int)
                             · rw [if_pos c34] at H;have c34b0:decide (t319<(l2.length:Int))=true:=decide_eq_true c34;clear c34
                               obtain ⟨y322,hy322⟩: ∃y_:List (S40),y_=(x12_3.set (x13_3:Int).toNat (⟨(rd_T40 x12_3 x13_3).f0,(rd_T40 x12_3 x13_3).f1,(rd_T40 x12_3 x13_3).f2,rdOf ByteArray.empty l2 t319⟩:S40)):=⟨_,rfl⟩
                               replace H:(mummerref04_Rename.l2 k3 l1 l2 y322 (wrap64 (x13_3+1)))=some (r1,r2):=by first|(rw [hy322];with_reducible exact H)|(have H2_:=(Option.bind_some _ _).symm.trans H;rw [hy322];with_reducible exact H2_)|(have H2_:=(Option.bind_some _ _).symm.trans H;with_reducible exact H2_)|with_reducible exact H|(rw [hy322];exact H)|exact H
                               have Ny322:=Aside0.mk hy322;clear hy322;have H':=Aside0.mk H;clear H;obtain ⟨Ao36,co36,eo36⟩:=Kd.R_slice HO_12.out;subst eo36;have p318:0≤(x13_3:Int):=of_decide_eq_true (by first|(with_reducible assumption)|assumption);have q318:x13_3<(x12_3.length:Int):=of_decide_eq_true (by first|(with_reducible assumption)|assumption);obtain ⟨ad318,e318,hx318_0,hx318_1,hx318_2,hx318_3⟩:=at_T40 (Kd.R_reads' HO_12.out).2.2 x13_3 p318 q318;cases e318;replace p318:=eq_true p318;replace q318:=eq_true q318
                               go_wp2_with (first|((with_reducible refine gate_callee (f:=35) rfl ?_);refine goesL_ (some 77) rfl rfl Tryz.func35 (by kernel_rfl) rfl #[.slice A1 l1.length c1,.string ((rd_T40 x12_3 x13_3).f3)] rfl (by (try simp only [List.map_toArray,List.map_cons,List.map_nil]);first|done|rfl|(simp only [List.length_drop,List.length_take];rfl)) ?_;(with_reducible refine (mummerref04_place.calls k3 _ _ l1 ((rd_T40 x12_3 x13_3).f3) t319 _ ?side1 ?side2 A30.out).mono ?_);(case side1=>repeat (first|exact (Kd.C_below HR1.out HB.out)|(with_reducible refine Kd.C_alloc ?_ _)|(with_reducible refine Kd.C_drewN ?_ _)|(with_reducible refine Kd.C_drew ?_)));(case side2=>exact HC1.out);rintro e w' ⟨rfl,⟨nd,rfl⟩⟩;refine ⟨_,rfl,?_⟩;(try (rw [drewN_self wr];generalize hq_:World.drewN wr _=wr;have n0_:Aside0 (Kd.R k40 40 wr w.heap.size (fun _=>True) (.slice (some ad318) x12_3.length co36) x12_3):=⟨by rw [←hq_];exact (by (with_reducible repeat (first|apply Kd.R_alloc|apply Kd.R_drewN|apply Kd.R_drew));exact HO_12.out)⟩;have n1_:Aside0 (Below w.heap.size w wr):=⟨by rw [←hq_];exact (by repeat (first|(with_reducible first|exact HB.out|apply below_alloc|apply pw_below_drewN|apply below_drew1)|exact HB.out))⟩;clear HO_12 HB hq_;have HO_12:=n0_;have HB:=n1_;clear n0_ n1_));have p320:0≤(x13_3:Int):=of_decide_eq_true (by first|(with_reducible assumption)|assumption);have q320:x13_3<(x12_3.length:Int):=of_decide_eq_true (by first|(with_reducible assumption)|assumption);obtain ⟨ad320,e320,hx320_0,hx320_1,hx320_2,hx320_3⟩:=at_T40 (Kd.R_reads' HO_12.out).2.2 x13_3 p320 q320;obtain rfl:ad318=ad320:=(by injection e320);replace p320:=eq_true p320;replace q320:=eq_true q320;have p321:0≤(t319:Int):=of_decide_eq_true (by first|(with_reducible assumption)|assumption);have q321:t319<(l2.length:Int):=of_decide_eq_true (by first|(with_reducible assumption)|assumption);obtain ⟨ad321,e321,hx321_0⟩:=Kd.at_string HR2.out t319 p321 q321;cases e321;replace hx321_0:=(HB.out.cell (World.block_lt_of_cell? w _ hx321_0)).trans hx321_0;replace p321:=eq_true p321;replace q321:=eq_true q321;have p35:0≤(x13_3:Int):=of_decide_eq_true (by first|(with_reducible assumption)|assumption);have q35:(x13_3:Int)<((x12_3.length:Int):Int):=of_decide_eq_true (by first|(with_reducible assumption)|assumption);obtain ⟨go35,co35,eo35,gb35,gl35,cl35,HG35⟩:=Kd.R_form HO_12.out (by omega);(first|cases eo35|(injection eo35 with ea_ en_ ec_;(first|subst ea_|(injection ea_ with ea_;subst ea_));subst ec_;clear en_));have GB35:=Aside0.mk gb35;have GG35:=Aside0.mk HG35;clear gb35 gl35 HG35;(first|simp only [add_plain] at hx318_0|skip);(first|simp only [add_plain] at hx318_1|skip);(first|simp only [add_plain] at hx318_2|skip);(first|simp only [add_plain] at hx318_3|skip);(first|simp only [add_plain] at hx320_0|skip);(first|simp only [add_plain] at hx320_1|skip);(first|simp only [add_plain] at hx320_2|skip);(first|simp only [add_plain] at hx320_3|skip);obtain ⟨ce35,hcl35,hM35,hcc35,hfr35⟩:=Kd.R_elem HO_12.out z40 (x13_3:Int) p35 q35;obtain rfl:=k40_openM hM35;have hx35_0:wr.cell? ⟨go35,(x13_3:Int).toNat*4,none⟩=some (.int .i64 ((rd_T40 x12_3 x13_3).f0)):=hcc35 0 _ rfl;have hx35_1:wr.cell? ⟨go35,(x13_3:Int).toNat*4+1,none⟩=some (.int .i64 ((rd_T40 x12_3 x13_3).f1)):=hcc35 1 _ rfl;have hx35_2:wr.cell? ⟨go35,(x13_3:Int).toNat*4+2,none⟩=some (.int .i64 ((rd_T40 x12_3 x13_3).f2)):=hcc35 2 _ rfl;have hx35_3:wr.cell? ⟨go35,(x13_3:Int).toNat*4+3,none⟩=some (.string ((rd_T40 x12_3 x13_3).f3)):=hcc35 3 _ rfl;have hf35_0:wr.frozen? ⟨go35,(x13_3:Int).toNat*4,none⟩=false:=hfr35 0;have hf35_1:wr.frozen? ⟨go35,(x13_3:Int).toNat*4+1,none⟩=false:=hfr35 1;have hf35_2:wr.frozen? ⟨go35,(x13_3:Int).toNat*4+2,none⟩=false:=hfr35 2;have hf35_3:wr.frozen? ⟨go35,(x13_3:Int).toNat*4+3,none⟩=false:=hfr35 3;clear hcl35 hcc35 hfr35 hM35;replace p35:=eq_true p35;replace q35:=eq_true q35;have HX37:=Aside0.mk (show Kd.R k40 40 wr w.heap.size (fun _=>True) (.slice (some ⟨go35,0,none⟩) x12_3.length co36) x12_3 from (by (with_reducible repeat (first|apply Kd.R_alloc|apply Kd.R_drewN|apply Kd.R_drew));exact HO_12.out));obtain ⟨ce37,hcl37,hM37,hcc37,hfr37⟩:=Kd.R_elem HX37.out z40 (x13_3:Int) (of_decide_eq_true (by first|(with_reducible assumption)|assumption)) (by have h_:(x13_3:Int)<((x12_3.length:Int):Int):=of_decide_eq_true (by first|(with_reducible assumption)|assumption);first|exact h_|(have e_:=(Kd.R_reads' HO_12.out).1;omega)|simpa using h_);obtain rfl:=k40_openM hM37;have HP37:=Kd.R_seg HX37.out (x13_3:Int) (of_decide_eq_true (by first|(with_reducible assumption)|assumption)) (by have h_:(x13_3:Int)<((x12_3.length:Int):Int):=of_decide_eq_true (by first|(with_reducible assumption)|assumption);first|exact h_|(have e_:=(Kd.R_reads' HO_12.out).1;omega)|simpa using h_) (seg:=[.string (rdOf ByteArray.empty l2 t319)]) (j:=3) hcl37 hcc37 (show 4≤4 from by decide) (x':=(⟨(rd_T40 x12_3 x13_3).f0,(rd_T40 x12_3 x13_3).f1,(rd_T40 x12_3 x13_3).f2,rdOf ByteArray.empty l2 t319⟩:S40)) (k40_mkM _ _ _ (⟨(rd_T40 x12_3 x13_3).f0,(rd_T40 x12_3 x13_3).f1,(rd_T40 x12_3 x13_3).f2,rdOf ByteArray.empty l2 t319⟩:S40) ) (fun _ hk=>hk);have hx37_3:=hcc37 3 _ rfl;(try simp only [show (k40).sz=4 from rfl,Nat.mul_one,Nat.add_zero] at hx37_3);have hf37_3:=hfr37 3;(try simp only [show (k40).sz=4 from rfl,Nat.mul_one,Nat.add_zero] at hf37_3);clear hcl37 hcc37 hfr37 hM37)|((with_reducible refine gate_store (t:=9) (p:=95) rfl ?_);refine store_event (t:=9) (p:=95) (v:=?vo_w38) (w1:=(wr.setCell ⟨go35,(x13_3:Int).toNat*4+3,none⟩ (.string (rdOf ByteArray.empty l2 t319)))) ?hg ?ho ?hn ?hr ?_;(case ho=>rfl);(case hg=>rfl);(case hn=>rfl);(case hr=>first|(go_simp;done)|(go_simp;rfl));intro w38 hw;have hg:wr.grownBy w38 (some go35):=(by rw [hw];exact HP37.2);have hp_:Kd.R k40 40 w38 w.heap.size (fun _=>True) (.slice (some ⟨go35,0,none⟩) x12_3.length co36) y322:=(by rw [hw,Ny322.out];exact HP37.1);clear HP37;have n0_:=Aside0.mk (hp_);have n1_:=Aside0.mk ((by rw [hw];exact below_set (HB.out) GB35.out:Below w.heap.size w w38));clear HO_12;clear HB;have HO_12:=n0_;have HB:=n1_;clear n0_ n1_;clear hg hw hp_))
                               go_roundg k3
                               case measure=>have:=HK1.out;have:=HK2.out;have:=HK3.out;omega
                               case rel=>exact ⟨(y322),(wrap64 (x13_3+1)),(by first|rfl|(simp;done)|(simp [*];done)),H',⟨by have:=HK1.out;have:=HK2.out;have:=HK3.out;omega⟩,⟨by (with_reducible repeat (first|apply Kd.R_alloc|apply Kd.R_drewN|apply Kd.R_drew));exact HO_12.out⟩,⟨by repeat (first|(with_reducible first|exact HB.out|apply below_alloc|apply pw_below_drewN|apply below_drew1)|exact HB.out)⟩⟩
                             · rw [if_neg c34] at H;exact absurd H (by simp)
                           · rw [if_neg c33] at H;exact absurd H (by simp)
                         · rw [if_neg c32] at H;have c32b0:decide (0≤t319)=false:=decide_eq_false c32;clear c32;have H':=Aside0.mk H;clear H;obtain ⟨Ao39,co39,eo39⟩:=Kd.R_slice HO_12.out;subst eo39;have p318:0≤(x13_3:Int):=of_decide_eq_true (by first|(with_reducible assumption)|assumption);have q318:x13_3<(x12_3.length:Int):=of_decide_eq_true (by first|(with_reducible assumption)|assumption);obtain ⟨ad318,e318,hx318_0,hx318_1,hx318_2,hx318_3⟩:=at_T40 (Kd.R_reads' HO_12.out).2.2 x13_3 p318 q318;cases e318;replace p318:=eq_true p318;replace q318:=eq_true q318
                           go_wp2_with (first|((with_reducible refine gate_callee (f:=35) rfl ?_);refine goesL_ (some 77) rfl rfl Tryz.func35 (by kernel_rfl) rfl #[.slice A1 l1.length c1,.string ((rd_T40 x12_3 x13_3).f3)] rfl (by (try simp only [List.map_toArray,List.map_cons,List.map_nil]);first|done|rfl|(simp only [List.length_drop,List.length_take];rfl)) ?_;(with_reducible refine (mummerref04_place.calls k3 _ _ l1 ((rd_T40 x12_3 x13_3).f3) t319 _ ?side1 ?side2 A30.out).mono ?_);(case side1=>repeat (first|exact (Kd.C_below HR1.out HB.out)|(with_reducible refine Kd.C_alloc ?_ _)|(with_reducible refine Kd.C_drewN ?_ _)|(with_reducible refine Kd.C_drew ?_)));(case side2=>exact HC1.out);rintro e w' ⟨rfl,⟨nd,rfl⟩⟩;refine ⟨_,rfl,?_⟩;have p320:0≤(x13_3:Int):=of_decide_eq_true (by first|(with_reducible assumption)|assumption);have q320:x13_3<(x12_3.length:Int):=of_decide_eq_true (by first|(with_reducible assumption)|assumption);obtain ⟨ad320,e320,hx320_0,hx320_1,hx320_2,hx320_3⟩:=at_T40 (Kd.R_reads' HO_12.out).2.2 x13_3 p320 q320;obtain rfl:ad318=ad320:=(by injection e320);replace p320:=eq_true p320;replace q320:=eq_true q320))
                           go_roundg k3
                           case measure=>have:=HK1.out;have:=HK2.out;have:=HK3.out;omega
                           case rel=>exact ⟨(x12_3),(wrap64 (x13_3+1)),(by first|rfl|(simp;done)|(simp [*];done)),H',⟨by have:=HK1.out;have:=HK2.out;have:=HK3.out;omega⟩,⟨by (with_reducible repeat (first|apply Kd.R_alloc|apply Kd.R_drewN|apply Kd.R_drew));exact HO_12.out⟩,⟨by repeat (first|(with_reducible first|exact HB.out|apply below_alloc|apply pw_below_drewN|apply below_drew1)|exact HB.out)⟩⟩
                       · rw [if_neg c31] at H;have c31b0:(((rd_T40 x12_3 x13_3).f0)==3)=false:=beq_eq_false_iff_ne.mpr c31;have c31b1:(((rd_T40 x12_3 x13_3).f0) != 3)=true:=bne_iff_ne.mpr c31;have H':=Aside0.mk H;clear H;obtain ⟨Ao40,co40,eo40⟩:=Kd.R_slice HO_12.out;subst eo40;have p318:0≤(x13_3:Int):=of_decide_eq_true (by first|(with_reducible assumption)|assumption);have q318:x13_3<(x12_3.length:Int):=of_decide_eq_true (by first|(with_reducible assumption)|assumption);obtain ⟨ad318,e318,hx318_0,hx318_1,hx318_2,hx318_3⟩:=at_T40 (Kd.R_reads' HO_12.out).2.2 x13_3 p318 q318;cases e318;replace p318:=eq_true p318;replace q318:=eq_true q318
                         go_wp2_with (first|((with_reducible refine gate_callee (f:=35) rfl ?_);refine goesL_ (some 77) rfl rfl Tryz.func35 (by kernel_rfl) rfl #[.slice A1 l1.length c1,.string ((rd_T40 x12_3 x13_3).f3)] rfl (by (try simp only [List.map_toArray,List.map_cons,List.map_nil]);first|done|rfl|(simp only [List.length_drop,List.length_take];rfl)) ?_;(with_reducible refine (mummerref04_place.calls k3 _ _ l1 ((rd_T40 x12_3 x13_3).f3) t319 _ ?side1 ?side2 A30.out).mono ?_);(case side1=>repeat (first|exact (Kd.C_below HR1.out HB.out)|(with_reducible refine Kd.C_alloc ?_ _)|(with_reducible refine Kd.C_drewN ?_ _)|(with_reducible refine Kd.C_drew ?_)));(case side2=>exact HC1.out);rintro e w' ⟨rfl,⟨nd,rfl⟩⟩;refine ⟨_,rfl,?_⟩;have p320:0≤(x13_3:Int):=of_decide_eq_true (by first|(with_reducible assumption)|assumption);have q320:x13_3<(x12_3.length:Int):=of_decide_eq_true (by first|(with_reducible assumption)|assumption);obtain ⟨ad320,e320,hx320_0,hx320_1,hx320_2,hx320_3⟩:=at_T40 (Kd.R_reads' HO_12.out).2.2 x13_3 p320 q320;obtain rfl:ad318=ad320:=(by injection e320);replace p320:=eq_true p320;replace q320:=eq_true q320))
                         go_roundg k3
                         case measure=>have:=HK1.out;have:=HK2.out;have:=HK3.out;omega
                         case rel=>exact ⟨(x12_3),(wrap64 (x13_3+1)),(by first|rfl|(simp;done)|(simp [*];done)),H',⟨by have:=HK1.out;have:=HK2.out;have:=HK3.out;omega⟩,⟨by (with_reducible repeat (first|apply Kd.R_alloc|apply Kd.R_drewN|apply Kd.R_drew));exact HO_12.out⟩,⟨by repeat (first|(with_reducible first|exact HB.out|apply below_alloc|apply pw_below_drewN|apply below_drew1)|exact HB.out)⟩⟩
                     · rw [if_neg c29] at H;exact absurd H (by simp)
                   · rw [if_neg c28] at H;have c28b0:decide (x13_3<(x12_3.length:Int))=false:=decide_eq_false c28;clear c28;simp only [Option.some.injEq,Prod.mk.injEq] at H;obtain ⟨rfl,rfl⟩:=H;obtain ⟨Ao41,co41,eo41⟩:=Kd.R_slice HO_12.out;subst eo41;go_wp2;go_ret2;exact ⟨_,by first|rfl|(simp [errW_none,errW_some]<;>rfl)|(simp [*, errW_none,errW_some]<;>rfl),by (with_reducible repeat (first|apply Kd.R_alloc|apply Kd.R_drewN|apply Kd.R_drew));exact HO_12.out,by repeat (first|(with_reducible first|exact HB.out|apply below_alloc|apply pw_below_drewN|apply below_drew1)|exact HB.out)⟩
              · rw [if_neg c24] at H;exact absurd H (by simp)
   · rw [if_neg c6] at H;have c6b0:((l1.length:Int)==(l2.length:Int))=false:=beq_eq_false_iff_ne.mpr c6;have c6b1:((l1.length:Int) != (l2.length:Int))=true:=bne_iff_ne.mpr c6
     have c6b2:(l1.length==l2.length)=false:=by first|simpa using c6|(simp at c6 ⊢; omega)
     simp only [Option.some.injEq,Prod.mk.injEq] at H;obtain ⟨rfl,rfl⟩:=H;go_enter Tryz.func13,Tryz.ntmps13
     go_wp2_with (first|((with_reducible refine gate_callee (f:=25) rfl ?_);refine goesL_ (some 17) rfl rfl Tryz.func25 (by kernel_rfl) rfl #[.slice A0 l0.length c0] rfl (by (try simp only [List.map_toArray,List.map_cons,List.map_nil]);first|done|rfl|(simp only [List.length_drop,List.length_take];rfl)) ?_;(with_reducible refine (mummerref04_Check.calls k _ _ l0 t304 t305 _ ?side1 ?side2 A4.out).mono ?_);(case side1=>repeat (first|exact HR0.out|(with_reducible refine Kd.C_alloc ?_ _)|(with_reducible refine Kd.C_drewN ?_ _)|(with_reducible refine Kd.C_drew ?_)));(case side2=>exact HC0.out);rintro e w42 ⟨rfl,hb⟩;refine ⟨_,rfl,?_⟩;have n0_:=Aside0.mk (below_step (by repeat (first|(with_reducible first|exact HB.out|apply below_alloc|apply pw_below_drewN|apply below_drew1)|exact HB.out)) hb);clear HB;have HB:=n0_;clear n0_;(try clear hb);(try clear hb2);(try clear hk);(try clear hi)))
     go_ret2;exact ⟨_,by first|rfl|(simp [errW_none,errW_some]<;>rfl)|(simp [*, errW_none,errW_some]<;>rfl),by first|exact Kd.R_nil _ _ _ _ _|exact Kd.N_nil _ _ _ _ _|exact Kd.V_nil _ _ _ _ _|exact Kd.Q_nil _ _ _ _ _|exact Kd.S_nil _ _ _ _ _,by repeat (first|(with_reducible first|exact HB.out|apply below_alloc|apply pw_below_drewN|apply below_drew1)|exact HB.out)⟩
 · rw [if_neg c5] at H;have c5b0:(t305==0)=false:=beq_eq_false_iff_ne.mpr c5;have c5b1:(t305 != 0)=true:=bne_iff_ne.mpr c5;simp only [Option.some.injEq,Prod.mk.injEq] at H;obtain ⟨rfl,rfl⟩:=H;go_enter Tryz.func13,Tryz.ntmps13
   go_wp2_with (first|((with_reducible refine gate_callee (f:=25) rfl ?_);refine goesL_ (some 17) rfl rfl Tryz.func25 (by kernel_rfl) rfl #[.slice A0 l0.length c0] rfl (by (try simp only [List.map_toArray,List.map_cons,List.map_nil]);first|done|rfl|(simp only [List.length_drop,List.length_take];rfl)) ?_;(with_reducible refine (mummerref04_Check.calls k _ _ l0 t304 t305 _ ?side1 ?side2 A4.out).mono ?_);(case side1=>repeat (first|exact HR0.out|(with_reducible refine Kd.C_alloc ?_ _)|(with_reducible refine Kd.C_drewN ?_ _)|(with_reducible refine Kd.C_drew ?_)));(case side2=>exact HC0.out);rintro e w43 ⟨rfl,hb⟩;refine ⟨_,rfl,?_⟩;have n0_:=Aside0.mk (below_step (by repeat (first|(with_reducible first|exact HB.out|apply below_alloc|apply pw_below_drewN|apply below_drew1)|exact HB.out)) hb);clear HB;have HB:=n0_;clear n0_;(try clear hb);(try clear hb2);(try clear hk);(try clear hi)))
   go_ret2;exact ⟨_,by first|rfl|(simp [errW_none,errW_some]<;>rfl)|(simp [*, errW_none,errW_some]<;>rfl),by first|exact Kd.R_nil _ _ _ _ _|exact Kd.N_nil _ _ _ _ _|exact Kd.V_nil _ _ _ _ _|exact Kd.Q_nil _ _ _ _ _|exact Kd.S_nil _ _ _ _ _,by repeat (first|(with_reducible first|exact HB.out|apply below_alloc|apply pw_below_drewN|apply below_drew1)|exact HB.out)⟩
end Go.Proofs.YtgmiekggdgmhkaaGreatDoor.Q
end
