/- Texts of one claim, put together. -/
import Derived.Test.YtkbhcgifnnhbaaaGreatDoorK15
namespace Go.Proofs.YtkbhcgifnnhbaaaGreatDoor
open Go Go.Abs
set_option maxRecDepth 20000
set_option maxHeartbeats 4000000
noncomputable section
variable {H:FuncId->Option (List AV->Mem->R)}
abbrev ckE (e:En TP U.B):Bool:=q93 e
abbrev uF {f fn h} (t:Tr TP f fn h):={D:List AV->CM // (t.x (OX TP U.B)).fn=D}
abbrev uG {f fn h} (t:Tr TP f fn h) (n:Nat):={D:List AV->CM // gsN (t.x (OX TP U.B)).gs n=D}
theorem q0t {e:En TP U.B} (hc:ckE e=true) (hd:j8X e.rs=false) (h:H e.f=none) (G:{D:List AV->CM // e.t.fn=D}) {xs:List AV} {m:Mem} (hn:G.1 xs≠.fail):run (Ea H) (.fn e.f) xs m=q0a (Da H) (G.1 xs) m:=by
 rw[<-G.2];exact b8b e hc hd h xs m (by rw[G.2];exact hn)
theorem q0h {e:En TP U.B} (hc:ckE e=true) {k:Nat} {C:List AV->CM} (hD:q72 k e.t.gs=some C) (G:{D:List AV->CM // C=D}) {xs:List AV} {m:Mem} (hn:G.1 xs≠.fail):(Da H).gor k xs m=q0a (Da H) (G.1 xs) m:=by
 rw[<-G.2];exact b8a e hc k C hD xs m (by rw[G.2];exact hn)
variable (t0 t1 t2 t3 t4 t5 t6 t7 t8 t9 t10 t11 t12 t13 t14 t15 t16 t17 t18 t19 t20 t21 t22 t25 t26 t27 t28 t29 t30 t31 t32 t34 t43 t44 t45 t47 t50 t51 t52 t62 t63 t64 t76 t77 t78:AV) (m:Mem)
theorem b8v:ckE (U.t5.en Tryz.func5 rfl rfl)=true:=by kernel_rfl
def F5:uF U.t5:=⟨_,by conv=>lhs;simp only[U.t5,q0c]⟩
theorem b7s (h:H 5=none) (a0 a1:AV) (m:Mem):run (Ea H) (.fn 5) [a0,a1] m=q0a (Da H) (F5.1 [a0,a1]) m:=
 q0t b8v (by kernel_rfl) h F5 nofun
theorem b3d:ckE (U.t171.en Tryz.func171 rfl rfl)=true:=by kernel_rfl
def b6v:uF U.t171:=⟨_,by conv=>lhs;simp only[U.t171,q0c]⟩
theorem a9t (h:H 171=none) (a0 a1:AV) (m:Mem):run (Ea H) (.fn 171) [a0,a1] m=q0a (Da H) (b6v.1 [a0,a1]) m:=
 q0t b3d (by kernel_rfl) h b6v nofun
theorem a5a:ckE (U.b2a.en Tryz.func172 rfl rfl)=true:=by kernel_rfl
def j2y:uG U.b2a 0:=⟨_,by conv=>lhs;simp only[U.b2a,q0c,q0K]⟩
theorem j5u:(Da H).gor 704512 [t0,t2,t3,t4] m=q0a (Da H) (j2y.1 [t0,t2,t3,t4]) m:=
 q0h a5a (by kernel_rfl) j2y nofun
def b2I:uF U.b2a:=⟨_,by conv=>lhs;simp only[U.b2a,q0c]⟩
theorem z6T (h:H 172=none) (a0:AV) (m:Mem):run (Ea H) (.fn 172) [a0] m=q0a (Da H) (b2I.1 [a0]) m:=
 q0t a5a (by kernel_rfl) h b2I nofun
theorem z3t:ckE (U.t213.en Tryz.func213 rfl rfl)=true:=by kernel_rfl
def z7Y:uG U.t213 0:=⟨_,by conv=>lhs;simp only[U.t213,q0c,q0K]⟩
theorem z4j:(Da H).gor 872448 [t2,t3,t4,t5,t6,t7] m=q0a (Da H) (z7Y.1 [t2,t3,t4,t5,t6,t7]) m:=
 q0h z3t (by kernel_rfl) z7Y nofun
def j2z:uG U.t213 1:=⟨_,by conv=>lhs;simp only[U.t213,q0c,q1c]⟩
theorem j5v:(Da H).gor 872449 [t2,t3,t4,t5,t6,t7] m=q0a (Da H) (j2z.1 [t2,t3,t4,t5,t6,t7]) m:=
 q0h z3t (by kernel_rfl) j2z nofun
def j2A:uG U.t213 2:=⟨_,by conv=>lhs;simp only[U.t213,q0c,q1n]⟩
theorem j5w:(Da H).gor 872450 [t2,t3,t4,t5,t6,t7] m=q0a (Da H) (j2A.1 [t2,t3,t4,t5,t6,t7]) m:=
 q0h z3t (by kernel_rfl) j2A nofun
def j2B:uG U.t213 3:=⟨_,by conv=>lhs;simp only[U.t213,q0c,q1V]⟩
theorem j5x:(Da H).gor 872451 [t4,t5] m=q0a (Da H) (j2B.1 [t4,t5]) m:=
 q0h z3t (by kernel_rfl) j2B nofun
def b6w:uF U.t213:=⟨_,by conv=>lhs;simp only[U.t213,q0c]⟩
theorem a9u (h:H 213=none) (a0 a1:AV) (m:Mem):run (Ea H) (.fn 213) [a0,a1] m=q0a (Da H) (b6w.1 [a0,a1]) m:=
 q0t z3t (by kernel_rfl) h b6w nofun
theorem z0w:ckE (U.j0k.en Tryz.func214 rfl rfl)=true:=by kernel_rfl
def z7Z:uG U.j0k 0:=⟨_,by conv=>lhs;simp only[U.j0k,q0c,q0K]⟩
theorem z4k:(Da H).gor 876544 [t2,t3,t5] m=q0a (Da H) (z7Z.1 [t2,t3,t5]) m:=
 q0h z0w (by kernel_rfl) z7Z nofun
def z2W:uG U.j0k 1:=⟨_,by conv=>lhs;simp only[U.j0k,q0c,q1c]⟩
theorem q9a:(Da H).gor 876545 [t2,t3,t5] m=q0a (Da H) (z2W.1 [t2,t3,t5]) m:=
 q0h z0w (by kernel_rfl) z2W nofun
def j2C:uG U.j0k 2:=⟨_,by conv=>lhs;simp only[U.j0k,q0c,q1n]⟩
theorem j5y:(Da H).gor 876546 [] m=q0a (Da H) (j2C.1 []) m:=
 q0h z0w (by kernel_rfl) j2C nofun
def j2D:uG U.j0k 3:=⟨_,by conv=>lhs;simp only[U.j0k,q0c,q1V]⟩
theorem j5z:(Da H).gor 876547 [t2,t3,t5] m=q0a (Da H) (j2D.1 [t2,t3,t5]) m:=
 q0h z0w (by kernel_rfl) j2D nofun
def j2E:uG U.j0k 4:=⟨_,by conv=>lhs;simp only[U.j0k,q0c,q4j]⟩
theorem j5A:(Da H).gor 876548 [] m=q0a (Da H) (j2E.1 []) m:=
 q0h z0w (by kernel_rfl) j2E nofun
def b6x:uF U.j0k:=⟨_,by conv=>lhs;simp only[U.j0k,q0c]⟩
theorem a9v (h:H 214=none) (a0 a1:AV) (m:Mem):run (Ea H) (.fn 214) [a0,a1] m=q0a (Da H) (b6x.1 [a0,a1]) m:=
 q0t z0w (by kernel_rfl) h b6x nofun
theorem z3u:ckE (U.j1N.en Tryz.func215 rfl rfl)=true:=by kernel_rfl
def z8a:uG U.j1N 0:=⟨_,by conv=>lhs;simp only[U.j1N,q0c,q0K]⟩
theorem z4l:(Da H).gor 880640 [t2,t3,t4,t5,t6,t7] m=q0a (Da H) (z8a.1 [t2,t3,t4,t5,t6,t7]) m:=
 q0h z3u (by kernel_rfl) z8a nofun
def j2F:uG U.j1N 1:=⟨_,by conv=>lhs;simp only[U.j1N,q0c,q1c]⟩
theorem j5B:(Da H).gor 880641 [t2,t3,t4,t5,t6,t7] m=q0a (Da H) (j2F.1 [t2,t3,t4,t5,t6,t7]) m:=
 q0h z3u (by kernel_rfl) j2F nofun
def j2G:uG U.j1N 2:=⟨_,by conv=>lhs;simp only[U.j1N,q0c,q1n]⟩
theorem j5C:(Da H).gor 880642 [t2,t3,t4,t5,t6,t7] m=q0a (Da H) (j2G.1 [t2,t3,t4,t5,t6,t7]) m:=
 q0h z3u (by kernel_rfl) j2G nofun
def j2H:uG U.j1N 3:=⟨_,by conv=>lhs;simp only[U.j1N,q0c,q1V]⟩
theorem j5D:(Da H).gor 880643 [t4,t5] m=q0a (Da H) (j2H.1 [t4,t5]) m:=
 q0h z3u (by kernel_rfl) j2H nofun
def b6y:uF U.j1N:=⟨_,by conv=>lhs;simp only[U.j1N,q0c]⟩
theorem a9w (h:H 215=none) (a0 a1:AV) (m:Mem):run (Ea H) (.fn 215) [a0,a1] m=q0a (Da H) (b6y.1 [a0,a1]) m:=
 q0t z3u (by kernel_rfl) h b6y nofun
theorem a5b:ckE (U.t226.en Tryz.func226 rfl rfl)=true:=by kernel_rfl
def j2L:uG U.t226 0:=⟨_,by conv=>lhs;simp only[U.t226,q0c,q0K]⟩
theorem j5H:(Da H).gor 925696 [t2,t4] m=q0a (Da H) (j2L.1 [t2,t4]) m:=
 q0h a5b (by kernel_rfl) j2L nofun
def b5k:uF U.t226:=⟨_,by conv=>lhs;simp only[U.t226,q0c]⟩
theorem j4C (h:H 226=none) (a0:AV) (m:Mem):run (Ea H) (.fn 226) [a0] m=q0a (Da H) (b5k.1 [a0]) m:=
 q0t a5b (by kernel_rfl) h b5k nofun
theorem b3f:ckE (U.t227.en Tryz.func227 rfl rfl)=true:=by kernel_rfl
def b5l:uF U.t227:=⟨_,by conv=>lhs;simp only[U.t227,q0c]⟩
theorem j4D (h:H 227=none) (a0:AV) (m:Mem):run (Ea H) (.fn 227) [a0] m=q0a (Da H) (b5l.1 [a0]) m:=
 q0t b3f (by kernel_rfl) h b5l nofun
theorem j3Y:ckE (U.t228.en Tryz.func228 rfl rfl)=true:=by kernel_rfl
def z8b:uG U.t228 0:=⟨_,by conv=>lhs;simp only[U.t228,q0c,q0K]⟩
theorem z4m:(Da H).gor 933888 [t5] m=q0a (Da H) (z8b.1 [t5]) m:=
 q0h j3Y (by kernel_rfl) z8b nofun
def j2M:uG U.t228 1:=⟨_,by conv=>lhs;simp only[U.t228,q0c,q1c]⟩
theorem j5I:(Da H).gor 933889 [] m=q0a (Da H) (j2M.1 []) m:=
 q0h j3Y (by kernel_rfl) j2M nofun
def b2J:uF U.t228:=⟨_,by conv=>lhs;simp only[U.t228,q0c]⟩
theorem z6U (h:H 228=none) (a0 a1:AV) (m:Mem):run (Ea H) (.fn 228) [a0,a1] m=q0a (Da H) (b2J.1 [a0,a1]) m:=
 q0t j3Y (by kernel_rfl) h b2J nofun
theorem b3g:ckE (U.t229.en Tryz.func229 rfl rfl)=true:=by kernel_rfl
def b5m:uF U.t229:=⟨_,by conv=>lhs;simp only[U.t229,q0c]⟩
theorem j4E (h:H 229=none) (a0:AV) (m:Mem):run (Ea H) (.fn 229) [a0] m=q0a (Da H) (b5m.1 [a0]) m:=
 q0t b3g (by kernel_rfl) h b5m nofun
theorem a5c:ckE (U.b2b.en Tryz.func230 rfl rfl)=true:=by kernel_rfl
def z8c:uG U.b2b 0:=⟨_,by conv=>lhs;simp only[U.b2b,q0c,q0K]⟩
theorem z4n:(Da H).gor 942080 [t2,t3,t4,t6] m=q0a (Da H) (z8c.1 [t2,t3,t4,t6]) m:=
 q0h a5c (by kernel_rfl) z8c nofun
def b6z:uF U.b2b:=⟨_,by conv=>lhs;simp only[U.b2b,q0c]⟩
theorem a9x (h:H 230=none) (a0 a1 a2:AV) (m:Mem):run (Ea H) (.fn 230) [a0,a1,a2] m=q0a (Da H) (b6z.1 [a0,a1,a2]) m:=
 q0t a5c (by kernel_rfl) h b6z nofun
theorem z3v:ckE (U.j1O.en Tryz.func231 rfl rfl)=true:=by kernel_rfl
def z8d:uG U.j1O 0:=⟨_,by conv=>lhs;simp only[U.j1O,q0c,q0K]⟩
theorem z4o:(Da H).gor 946176 [t1,t8,t9,t10] m=q0a (Da H) (z8d.1 [t1,t8,t9,t10]) m:=
 q0h z3v (by kernel_rfl) z8d nofun
def j2N:uG U.j1O 1:=⟨_,by conv=>lhs;simp only[U.j1O,q0c,q1c]⟩
theorem j5J:(Da H).gor 946177 [t1,t8,t9,t10] m=q0a (Da H) (j2N.1 [t1,t8,t9,t10]) m:=
 q0h z3v (by kernel_rfl) j2N nofun
def j2O:uG U.j1O 2:=⟨_,by conv=>lhs;simp only[U.j1O,q0c,q1n]⟩
theorem j5K:(Da H).gor 946178 [t1,t8,t9,t10] m=q0a (Da H) (j2O.1 [t1,t8,t9,t10]) m:=
 q0h z3v (by kernel_rfl) j2O nofun
def j2P:uG U.j1O 3:=⟨_,by conv=>lhs;simp only[U.j1O,q0c,q1V]⟩
theorem j5L:(Da H).gor 946179 [] m=q0a (Da H) (j2P.1 []) m:=
 q0h z3v (by kernel_rfl) j2P nofun
def b6A:uF U.j1O:=⟨_,by conv=>lhs;simp only[U.j1O,q0c]⟩
theorem a9y (h:H 231=none) (a0 a1:AV) (m:Mem):run (Ea H) (.fn 231) [a0,a1] m=q0a (Da H) (b6A.1 [a0,a1]) m:=
 q0t z3v (by kernel_rfl) h b6A nofun
theorem a5d:ckE (U.t232.en Tryz.func232 rfl rfl)=true:=by kernel_rfl
def j2Q:uG U.t232 0:=⟨_,by conv=>lhs;simp only[U.t232,q0c,q0K]⟩
theorem j5M:(Da H).gor 950272 [] m=q0a (Da H) (j2Q.1 []) m:=
 q0h a5d (by kernel_rfl) j2Q nofun
def b2K:uF U.t232:=⟨_,by conv=>lhs;simp only[U.t232,q0c]⟩
theorem z6V (h:H 232=none) (a0:AV) (m:Mem):run (Ea H) (.fn 232) [a0] m=q0a (Da H) (b2K.1 [a0]) m:=
 q0t a5d (by kernel_rfl) h b2K nofun
theorem a5e:ckE (U.t233.en Tryz.func233 rfl rfl)=true:=by kernel_rfl
def z8e:uG U.t233 0:=⟨_,by conv=>lhs;simp only[U.t233,q0c,q0K]⟩
theorem z4p:(Da H).gor 954368 [] m=q0a (Da H) (z8e.1 []) m:=
 q0h a5e (by kernel_rfl) z8e nofun
def b6B:uF U.t233:=⟨_,by conv=>lhs;simp only[U.t233,q0c]⟩
theorem a9z (h:H 233=none) (a0:AV) (m:Mem):run (Ea H) (.fn 233) [a0] m=q0a (Da H) (b6B.1 [a0]) m:=
 q0t a5e (by kernel_rfl) h b6B nofun
theorem a5f:ckE (U.t234.en Tryz.func234 rfl rfl)=true:=by kernel_rfl
def j2R:uG U.t234 0:=⟨_,by conv=>lhs;simp only[U.t234,q0c,q0K]⟩
theorem j5N:(Da H).gor 958464 [t0,t3] m=q0a (Da H) (j2R.1 [t0,t3]) m:=
 q0h a5f (by kernel_rfl) j2R nofun
def b5n:uF U.t234:=⟨_,by conv=>lhs;simp only[U.t234,q0c]⟩
theorem j4F (h:H 234=none) (a0 a1:AV) (m:Mem):run (Ea H) (.fn 234) [a0,a1] m=q0a (Da H) (b5n.1 [a0,a1]) m:=
 q0t a5f (by kernel_rfl) h b5n nofun
theorem b3h:ckE (U.b5L.en Tryz.func235 rfl rfl)=true:=by kernel_rfl
def b5o:uF U.b5L:=⟨_,by conv=>lhs;simp only[U.b5L,q0c]⟩
theorem j4G (h:H 235=none) (a0:AV) (m:Mem):run (Ea H) (.fn 235) [a0] m=q0a (Da H) (b5o.1 [a0]) m:=
 q0t b3h (by kernel_rfl) h b5o nofun
theorem b3i:ckE (U.t236.en Tryz.func236 rfl rfl)=true:=by kernel_rfl
def b6C:uF U.t236:=⟨_,by conv=>lhs;simp only[U.t236,q0c]⟩
theorem a9A (h:H 236=none) (a0:AV) (m:Mem):run (Ea H) (.fn 236) [a0] m=q0a (Da H) (b6C.1 [a0]) m:=
 q0t b3i (by kernel_rfl) h b6C nofun
theorem j3Z:ckE (U.a6N.en Tryz.func237 rfl rfl)=true:=by kernel_rfl
def z8f:uG U.a6N 0:=⟨_,by conv=>lhs;simp only[U.a6N,q0c,q0K]⟩
theorem z4q:(Da H).gor 970752 [t0,t5,t6] m=q0a (Da H) (z8f.1 [t0,t5,t6]) m:=
 q0h j3Z (by kernel_rfl) z8f nofun
def j2S:uG U.a6N 1:=⟨_,by conv=>lhs;simp only[U.a6N,q0c,q1c]⟩
theorem j5O:(Da H).gor 970753 [t0,t6] m=q0a (Da H) (j2S.1 [t0,t6]) m:=
 q0h j3Z (by kernel_rfl) j2S nofun
def b2L:uF U.a6N:=⟨_,by conv=>lhs;simp only[U.a6N,q0c]⟩
theorem z6W (h:H 237=none) (a0 a1:AV) (m:Mem):run (Ea H) (.fn 237) [a0,a1] m=q0a (Da H) (b2L.1 [a0,a1]) m:=
 q0t j3Z (by kernel_rfl) h b2L nofun
theorem b3j:ckE (U.b5M.en Tryz.func238 rfl rfl)=true:=by kernel_rfl
def b6D:uF U.b5M:=⟨_,by conv=>lhs;simp only[U.b5M,q0c]⟩
theorem a9B (h:H 238=none) (a0 a1:AV) (m:Mem):run (Ea H) (.fn 238) [a0,a1] m=q0a (Da H) (b6D.1 [a0,a1]) m:=
 q0t b3j (by kernel_rfl) h b6D nofun
theorem b3k:ckE (U.b5N.en Tryz.func239 rfl rfl)=true:=by kernel_rfl
def b6E:uF U.b5N:=⟨_,by conv=>lhs;simp only[U.b5N,q0c]⟩
theorem a9C (h:H 239=none) (a0:AV) (m:Mem):run (Ea H) (.fn 239) [a0] m=q0a (Da H) (b6E.1 [a0]) m:=
 q0t b3k (by kernel_rfl) h b6E nofun
theorem q8O:ckE (U.z6n.en Tryz.func240 rfl rfl)=true:=by kernel_rfl
def z8g:uG U.z6n 0:=⟨_,by conv=>lhs;simp only[U.z6n,q0c,q0K]⟩
theorem z4r:(Da H).gor 983040 [t0,t1,t7,t8] m=q0a (Da H) (z8g.1 [t0,t1,t7,t8]) m:=
 q0h q8O (by kernel_rfl) z8g nofun
def j2T:uG U.z6n 1:=⟨_,by conv=>lhs;simp only[U.z6n,q0c,q1c]⟩
theorem j5P:(Da H).gor 983041 [t0,t1,t7,t8] m=q0a (Da H) (j2T.1 [t0,t1,t7,t8]) m:=
 q0h q8O (by kernel_rfl) j2T nofun
def z8h:uG U.z6n 2:=⟨_,by conv=>lhs;simp only[U.z6n,q0c,q1n]⟩
theorem z4s:(Da H).gor 983042 [t0,t1,t7,t8,t9] m=q0a (Da H) (z8h.1 [t0,t1,t7,t8,t9]) m:=
 q0h q8O (by kernel_rfl) z8h nofun
def z8i:uG U.z6n 3:=⟨_,by conv=>lhs;simp only[U.z6n,q0c,q1V]⟩
theorem z4t:(Da H).gor 983043 [t1,t7,t8,t9] m=q0a (Da H) (z8i.1 [t1,t7,t8,t9]) m:=
 q0h q8O (by kernel_rfl) z8i nofun
def z8j:uG U.z6n 4:=⟨_,by conv=>lhs;simp only[U.z6n,q0c,q4j]⟩
theorem z4u:(Da H).gor 983044 [t1,t7,t8] m=q0a (Da H) (z8j.1 [t1,t7,t8]) m:=
 q0h q8O (by kernel_rfl) z8j nofun
def j2U:uG U.z6n 5:=⟨_,by conv=>lhs;simp only[U.z6n,q0c,q6P]⟩
theorem j5Q:(Da H).gor 983045 [t0,t1,t7,t8] m=q0a (Da H) (j2U.1 [t0,t1,t7,t8]) m:=
 q0h q8O (by kernel_rfl) j2U nofun
def b6F:uF U.z6n:=⟨_,by conv=>lhs;simp only[U.z6n,q0c]⟩
theorem a9D (h:H 240=none) (a0 a1:AV) (m:Mem):run (Ea H) (.fn 240) [a0,a1] m=q0a (Da H) (b6F.1 [a0,a1]) m:=
 q0t q8O (by kernel_rfl) h b6F nofun
theorem z3w:ckE (U.j1P.en Tryz.func241 rfl rfl)=true:=by kernel_rfl
def z2X:uG U.j1P 0:=⟨_,by conv=>lhs;simp only[U.j1P,q0c,q0K]⟩
theorem q9b:(Da H).gor 987136 [t3,t4] m=q0a (Da H) (z2X.1 [t3,t4]) m:=
 q0h z3w (by kernel_rfl) z2X nofun
def j2V:uG U.j1P 1:=⟨_,by conv=>lhs;simp only[U.j1P,q0c,q1c]⟩
theorem j5R:(Da H).gor 987137 [t3,t4] m=q0a (Da H) (j2V.1 [t3,t4]) m:=
 q0h z3w (by kernel_rfl) j2V nofun
def j2W:uG U.j1P 2:=⟨_,by conv=>lhs;simp only[U.j1P,q0c,q1n]⟩
theorem j5S:(Da H).gor 987138 [t3,t4] m=q0a (Da H) (j2W.1 [t3,t4]) m:=
 q0h z3w (by kernel_rfl) j2W nofun
def z8k:uG U.j1P 3:=⟨_,by conv=>lhs;simp only[U.j1P,q0c,q1V]⟩
theorem z4v:(Da H).gor 987139 [t3] m=q0a (Da H) (z8k.1 [t3]) m:=
 q0h z3w (by kernel_rfl) z8k nofun
def b6G:uF U.j1P:=⟨_,by conv=>lhs;simp only[U.j1P,q0c]⟩
theorem a9E (h:H 241=none) (a0:AV) (m:Mem):run (Ea H) (.fn 241) [a0] m=q0a (Da H) (b6G.1 [a0]) m:=
 q0t z3w (by kernel_rfl) h b6G nofun
theorem a5g:ckE (U.b2c.en Tryz.func242 rfl rfl)=true:=by kernel_rfl
def j2X:uG U.b2c 0:=⟨_,by conv=>lhs;simp only[U.b2c,q0c,q0K]⟩
theorem j5T:(Da H).gor 991232 [t2,t5] m=q0a (Da H) (j2X.1 [t2,t5]) m:=
 q0h a5g (by kernel_rfl) j2X nofun
def b5p:uF U.b2c:=⟨_,by conv=>lhs;simp only[U.b2c,q0c]⟩
theorem j4H (h:H 242=none) (a0:AV) (m:Mem):run (Ea H) (.fn 242) [a0] m=q0a (Da H) (b5p.1 [a0]) m:=
 q0t a5g (by kernel_rfl) h b5p nofun
theorem b3l:ckE (U.b5O.en Tryz.func253 rfl rfl)=true:=by kernel_rfl
def b6H:uF U.b5O:=⟨_,by conv=>lhs;simp only[U.b5O,q0c]⟩
theorem a9F (h:H 253=none) (a0:AV) (m:Mem):run (Ea H) (.fn 253) [a0] m=q0a (Da H) (b6H.1 [a0]) m:=
 q0t b3l (by kernel_rfl) h b6H nofun
theorem q7K:ckE (U.z2M.en Tryz.func285 rfl rfl)=true:=by kernel_rfl
def z0l:uG U.z2M 0:=⟨_,by conv=>lhs;simp only[U.z2M,q0c,q0K]⟩
theorem q6H:(Da H).gor 1167360 [t1,t2,t4] m=q0a (Da H) (z0l.1 [t1,t2,t4]) m:=
 q0h q7K (by kernel_rfl) z0l nofun
def z2Y:uG U.z2M 1:=⟨_,by conv=>lhs;simp only[U.z2M,q0c,q1c]⟩
theorem q9c:(Da H).gor 1167361 [t1,t2,t4] m=q0a (Da H) (z2Y.1 [t1,t2,t4]) m:=
 q0h q7K (by kernel_rfl) z2Y nofun
def z8l:uG U.z2M 2:=⟨_,by conv=>lhs;simp only[U.z2M,q0c,q1n]⟩
theorem z4w:(Da H).gor 1167362 [t1,t2,t4] m=q0a (Da H) (z8l.1 [t1,t2,t4]) m:=
 q0h q7K (by kernel_rfl) z8l nofun
def z8m:uG U.z2M 3:=⟨_,by conv=>lhs;simp only[U.z2M,q0c,q1V]⟩
theorem z4x:(Da H).gor 1167363 [t1,t2] m=q0a (Da H) (z8m.1 [t1,t2]) m:=
 q0h q7K (by kernel_rfl) z8m nofun
def z0m:uG U.z2M 4:=⟨_,by conv=>lhs;simp only[U.z2M,q0c,q4j]⟩
theorem q6I:(Da H).gor 1167364 [t2,t5,t6] m=q0a (Da H) (z0m.1 [t2,t5,t6]) m:=
 q0h q7K (by kernel_rfl) z0m nofun
def z8n:uG U.z2M 5:=⟨_,by conv=>lhs;simp only[U.z2M,q0c,q6P]⟩
theorem z4y:(Da H).gor 1167365 [t2,t5,t6] m=q0a (Da H) (z8n.1 [t2,t5,t6]) m:=
 q0h q7K (by kernel_rfl) z8n nofun
def z8o:uG U.z2M 6:=⟨_,by conv=>lhs;simp only[U.z2M,q0c,z0b]⟩
theorem z4z:(Da H).gor 1167366 [t2,t5,t6] m=q0a (Da H) (z8o.1 [t2,t5,t6]) m:=
 q0h q7K (by kernel_rfl) z8o nofun
def b6I:uF U.z2M:=⟨_,by conv=>lhs;simp only[U.z2M,q0c]⟩
theorem a9M (h:H 285=none) (a0:AV) (m:Mem):run (Ea H) (.fn 285) [a0] m=q0a (Da H) (b6I.1 [a0]) m:=
 q0t q7K (by kernel_rfl) h b6I nofun
theorem a5h:ckE (U.b2d.en Tryz.func286 rfl rfl)=true:=by kernel_rfl
def j2Y:uG U.b2d 0:=⟨_,by conv=>lhs;simp only[U.b2d,q0c,q0K]⟩
theorem j6i:(Da H).gor 1171456 [t1,t4,t6] m=q0a (Da H) (j2Y.1 [t1,t4,t6]) m:=
 q0h a5h (by kernel_rfl) j2Y nofun
def b5q:uF U.b2d:=⟨_,by conv=>lhs;simp only[U.b2d,q0c]⟩
theorem j4J (h:H 286=none) (a0 a1:AV) (m:Mem):run (Ea H) (.fn 286) [a0,a1] m=q0a (Da H) (b5q.1 [a0,a1]) m:=
 q0t a5h (by kernel_rfl) h b5q nofun
theorem j31:ckE (U.a6O.en Tryz.func287 rfl rfl)=true:=by kernel_rfl
def z0n:uG U.a6O 0:=⟨_,by conv=>lhs;simp only[U.a6O,q0c,q0K]⟩
theorem q6J:(Da H).gor 1175552 [t1,t2,t4] m=q0a (Da H) (z0n.1 [t1,t2,t4]) m:=
 q0h j31 (by kernel_rfl) z0n nofun
def z8p:uG U.a6O 1:=⟨_,by conv=>lhs;simp only[U.a6O,q0c,q1c]⟩
theorem z4A:(Da H).gor 1175553 [t2,t4,t6] m=q0a (Da H) (z8p.1 [t2,t4,t6]) m:=
 q0h j31 (by kernel_rfl) z8p nofun
def b5r:uF U.a6O:=⟨_,by conv=>lhs;simp only[U.a6O,q0c]⟩
theorem j4K (h:H 287=none) (a0 a1:AV) (m:Mem):run (Ea H) (.fn 287) [a0,a1] m=q0a (Da H) (b5r.1 [a0,a1]) m:=
 q0t j31 (by kernel_rfl) h b5r nofun
theorem b3m:ckE (U.b5P.en Tryz.func288 rfl rfl)=true:=by kernel_rfl
def b5s:uF U.b5P:=⟨_,by conv=>lhs;simp only[U.b5P,q0c]⟩
theorem j4L (h:H 288=none) (a0 a1:AV) (m:Mem):run (Ea H) (.fn 288) [a0,a1] m=q0a (Da H) (b5s.1 [a0,a1]) m:=
 q0t b3m (by kernel_rfl) h b5s nofun
theorem b3n:ckE (U.b5Q.en Tryz.func289 rfl rfl)=true:=by kernel_rfl
def b5t:uF U.b5Q:=⟨_,by conv=>lhs;simp only[U.b5Q,q0c]⟩
theorem j4M (h:H 289=none) (a0:AV) (m:Mem):run (Ea H) (.fn 289) [a0] m=q0a (Da H) (b5t.1 [a0]) m:=
 q0t b3n (by kernel_rfl) h b5t nofun
theorem a5i:ckE (U.b2e.en Tryz.func290 rfl rfl)=true:=by kernel_rfl
def j2Z:uG U.b2e 0:=⟨_,by conv=>lhs;simp only[U.b2e,q0c,q0K]⟩
theorem j6j:(Da H).gor 1187840 [t4,t6,t8] m=q0a (Da H) (j2Z.1 [t4,t6,t8]) m:=
 q0h a5i (by kernel_rfl) j2Z nofun
def b6J:uF U.b2e:=⟨_,by conv=>lhs;simp only[U.b2e,q0c]⟩
theorem a9N (h:H 290=none) (a0 a1:AV) (m:Mem):run (Ea H) (.fn 290) [a0,a1] m=q0a (Da H) (b6J.1 [a0,a1]) m:=
 q0t a5i (by kernel_rfl) h b6J nofun
theorem b3o:ckE (U.b5R.en Tryz.func291 rfl rfl)=true:=by kernel_rfl
def b6K:uF U.b5R:=⟨_,by conv=>lhs;simp only[U.b5R,q0c]⟩
theorem a9O (h:H 291=none) (a0:AV) (m:Mem):run (Ea H) (.fn 291) [a0] m=q0a (Da H) (b6K.1 [a0]) m:=
 q0t b3o (by kernel_rfl) h b6K nofun
theorem a5j:ckE (U.b2f.en Tryz.func301 rfl rfl)=true:=by kernel_rfl
def z8q:uG U.b2f 0:=⟨_,by conv=>lhs;simp only[U.b2f,q0c,q0K]⟩
theorem z4B:(Da H).gor 1232896 [] m=q0a (Da H) (z8q.1 []) m:=
 q0h a5j (by kernel_rfl) z8q nofun
def b6L:uF U.b2f:=⟨_,by conv=>lhs;simp only[U.b2f,q0c]⟩
theorem a9P (h:H 301=none) (a0 a1:AV) (m:Mem):run (Ea H) (.fn 301) [a0,a1] m=q0a (Da H) (b6L.1 [a0,a1]) m:=
 q0t a5j (by kernel_rfl) h b6L nofun
theorem z3x:ckE (U.j1Q.en Tryz.func313 rfl rfl)=true:=by kernel_rfl
def z8r:uG U.j1Q 0:=⟨_,by conv=>lhs;simp only[U.j1Q,q0c,q0K]⟩
theorem z4C:(Da H).gor 1282048 [t0,t2,t3,t4,t5] m=q0a (Da H) (z8r.1 [t0,t2,t3,t4,t5]) m:=
 q0h z3x (by kernel_rfl) z8r nofun
def j20:uG U.j1Q 1:=⟨_,by conv=>lhs;simp only[U.j1Q,q0c,q1c]⟩
theorem j6k:(Da H).gor 1282049 [t0,t2,t3,t4,t5] m=q0a (Da H) (j20.1 [t0,t2,t3,t4,t5]) m:=
 q0h z3x (by kernel_rfl) j20 nofun
def j21:uG U.j1Q 2:=⟨_,by conv=>lhs;simp only[U.j1Q,q0c,q1n]⟩
theorem j6l:(Da H).gor 1282050 [t0,t2,t3,t4,t5] m=q0a (Da H) (j21.1 [t0,t2,t3,t4,t5]) m:=
 q0h z3x (by kernel_rfl) j21 nofun
def j22:uG U.j1Q 3:=⟨_,by conv=>lhs;simp only[U.j1Q,q0c,q1V]⟩
theorem j6m:(Da H).gor 1282051 [t2,t3] m=q0a (Da H) (j22.1 [t2,t3]) m:=
 q0h z3x (by kernel_rfl) j22 nofun
def b6M:uF U.j1Q:=⟨_,by conv=>lhs;simp only[U.j1Q,q0c]⟩
theorem a9Q (h:H 313=none) (a0:AV) (m:Mem):run (Ea H) (.fn 313) [a0] m=q0a (Da H) (b6M.1 [a0]) m:=
 q0t z3x (by kernel_rfl) h b6M nofun
theorem z3y:ckE (U.j1R.en Tryz.func314 rfl rfl)=true:=by kernel_rfl
def z8s:uG U.j1R 0:=⟨_,by conv=>lhs;simp only[U.j1R,q0c,q0K]⟩
theorem z4D:(Da H).gor 1286144 [t2,t3,t4,t5,t6] m=q0a (Da H) (z8s.1 [t2,t3,t4,t5,t6]) m:=
 q0h z3y (by kernel_rfl) z8s nofun
def z8t:uG U.j1R 1:=⟨_,by conv=>lhs;simp only[U.j1R,q0c,q1c]⟩
theorem z4E:(Da H).gor 1286145 [t2,t3,t4,t5,t6] m=q0a (Da H) (z8t.1 [t2,t3,t4,t5,t6]) m:=
 q0h z3y (by kernel_rfl) z8t nofun
def z8u:uG U.j1R 2:=⟨_,by conv=>lhs;simp only[U.j1R,q0c,q1n]⟩
theorem z4F:(Da H).gor 1286146 [t2,t3,t4,t5,t6] m=q0a (Da H) (z8u.1 [t2,t3,t4,t5,t6]) m:=
 q0h z3y (by kernel_rfl) z8u nofun
def j23:uG U.j1R 3:=⟨_,by conv=>lhs;simp only[U.j1R,q0c,q1V]⟩
theorem j6n:(Da H).gor 1286147 [t4,t5] m=q0a (Da H) (j23.1 [t4,t5]) m:=
 q0h z3y (by kernel_rfl) j23 nofun
def b6N:uF U.j1R:=⟨_,by conv=>lhs;simp only[U.j1R,q0c]⟩
theorem a9R (h:H 314=none) (a0 a1:AV) (m:Mem):run (Ea H) (.fn 314) [a0,a1] m=q0a (Da H) (b6N.1 [a0,a1]) m:=
 q0t z3y (by kernel_rfl) h b6N nofun
theorem q7L:ckE (U.z2N.en Tryz.func315 rfl rfl)=true:=by kernel_rfl
def z8v:uG U.z2N 0:=⟨_,by conv=>lhs;simp only[U.z2N,q0c,q0K]⟩
theorem z4G:(Da H).gor 1290240 [t2,t3,t4,t5,t6] m=q0a (Da H) (z8v.1 [t2,t3,t4,t5,t6]) m:=
 q0h q7L (by kernel_rfl) z8v nofun
def j24:uG U.z2N 1:=⟨_,by conv=>lhs;simp only[U.z2N,q0c,q1c]⟩
theorem j6o:(Da H).gor 1290241 [t2,t3,t4,t5,t6] m=q0a (Da H) (j24.1 [t2,t3,t4,t5,t6]) m:=
 q0h q7L (by kernel_rfl) j24 nofun
def z8w:uG U.z2N 2:=⟨_,by conv=>lhs;simp only[U.z2N,q0c,q1n]⟩
theorem z4H:(Da H).gor 1290242 [t2,t3,t4,t5,t6,t7,t8] m=q0a (Da H) (z8w.1 [t2,t3,t4,t5,t6,t7,t8]) m:=
 q0h q7L (by kernel_rfl) z8w nofun
def j25:uG U.z2N 3:=⟨_,by conv=>lhs;simp only[U.z2N,q0c,q1V]⟩
theorem j6p:(Da H).gor 1290243 [t2,t3,t4,t5,t6,t7,t8] m=q0a (Da H) (j25.1 [t2,t3,t4,t5,t6,t7,t8]) m:=
 q0h q7L (by kernel_rfl) j25 nofun
def j26:uG U.z2N 4:=⟨_,by conv=>lhs;simp only[U.z2N,q0c,q4j]⟩
theorem j6q:(Da H).gor 1290244 [t2,t3,t4,t5,t6,t7,t8] m=q0a (Da H) (j26.1 [t2,t3,t4,t5,t6,t7,t8]) m:=
 q0h q7L (by kernel_rfl) j26 nofun
def j27:uG U.z2N 5:=⟨_,by conv=>lhs;simp only[U.z2N,q0c,q6P]⟩
theorem j6r:(Da H).gor 1290245 [t2,t3,t4,t5,t6] m=q0a (Da H) (j27.1 [t2,t3,t4,t5,t6]) m:=
 q0h q7L (by kernel_rfl) j27 nofun
def j28:uG U.z2N 6:=⟨_,by conv=>lhs;simp only[U.z2N,q0c,z0b]⟩
theorem j6s:(Da H).gor 1290246 [t4,t5] m=q0a (Da H) (j28.1 [t4,t5]) m:=
 q0h q7L (by kernel_rfl) j28 nofun
def b6O:uF U.z2N:=⟨_,by conv=>lhs;simp only[U.z2N,q0c]⟩
theorem a9S (h:H 315=none) (a0 a1:AV) (m:Mem):run (Ea H) (.fn 315) [a0,a1] m=q0a (Da H) (b6O.1 [a0,a1]) m:=
 q0t q7L (by kernel_rfl) h b6O nofun
theorem j32:ckE (U.a6P.en Tryz.func316 rfl rfl)=true:=by kernel_rfl
def j29:uG U.a6P 0:=⟨_,by conv=>lhs;simp only[U.a6P,q0c,q0K]⟩
theorem j6t:(Da H).gor 1294336 [t2,t3] m=q0a (Da H) (j29.1 [t2,t3]) m:=
 q0h j32 (by kernel_rfl) j29 nofun
def j3a:uG U.a6P 1:=⟨_,by conv=>lhs;simp only[U.a6P,q0c,q1c]⟩
theorem j6u:(Da H).gor 1294337 [t2,t3] m=q0a (Da H) (j3a.1 [t2,t3]) m:=
 q0h j32 (by kernel_rfl) j3a nofun
def b5u:uF U.a6P:=⟨_,by conv=>lhs;simp only[U.a6P,q0c]⟩
theorem j4N (h:H 316=none) (a0 a1:AV) (m:Mem):run (Ea H) (.fn 316) [a0,a1] m=q0a (Da H) (b5u.1 [a0,a1]) m:=
 q0t j32 (by kernel_rfl) h b5u nofun
theorem b3p:ckE (U.b5S.en Tryz.func323 rfl rfl)=true:=by kernel_rfl
def b6P:uF U.b5S:=⟨_,by conv=>lhs;simp only[U.b5S,q0c]⟩
theorem a9T (h:H 323=none) (a0 a1:AV) (m:Mem):run (Ea H) (.fn 323) [a0,a1] m=q0a (Da H) (b6P.1 [a0,a1]) m:=
 q0t b3p (by kernel_rfl) h b6P nofun
theorem a5k:ckE (U.b2g.en Tryz.func330 rfl rfl)=true:=by kernel_rfl
def j3b:uG U.b2g 0:=⟨_,by conv=>lhs;simp only[U.b2g,q0c,q0K]⟩
theorem j6v:(Da H).gor 1351680 [t8] m=q0a (Da H) (j3b.1 [t8]) m:=
 q0h a5k (by kernel_rfl) j3b nofun
def b6Q:uF U.b2g:=⟨_,by conv=>lhs;simp only[U.b2g,q0c]⟩
theorem a9U (h:H 330=none) (a0 a1:AV) (m:Mem):run (Ea H) (.fn 330) [a0,a1] m=q0a (Da H) (b6Q.1 [a0,a1]) m:=
 q0t a5k (by kernel_rfl) h b6Q nofun
theorem b3q:ckE (U.b5T.en Tryz.func334 rfl rfl)=true:=by kernel_rfl
def b6R:uF U.b5T:=⟨_,by conv=>lhs;simp only[U.b5T,q0c]⟩
theorem a9V (h:H 334=none) (a0 a1:AV) (m:Mem):run (Ea H) (.fn 334) [a0,a1] m=q0a (Da H) (b6R.1 [a0,a1]) m:=
 q0t b3q (by kernel_rfl) h b6R nofun
theorem a5l:ckE (U.b2h.en Tryz.func336 rfl rfl)=true:=by kernel_rfl
def j3c:uG U.b2h 0:=⟨_,by conv=>lhs;simp only[U.b2h,q0c,q0K]⟩
theorem j6w:(Da H).gor 1376256 [t0,t3,t4] m=q0a (Da H) (j3c.1 [t0,t3,t4]) m:=
 q0h a5l (by kernel_rfl) j3c nofun
def b6S:uF U.b2h:=⟨_,by conv=>lhs;simp only[U.b2h,q0c]⟩
theorem a9W (h:H 336=none) (a0 a1:AV) (m:Mem):run (Ea H) (.fn 336) [a0,a1] m=q0a (Da H) (b6S.1 [a0,a1]) m:=
 q0t a5l (by kernel_rfl) h b6S nofun
theorem z0x:ckE (U.j0l.en Tryz.func337 rfl rfl)=true:=by kernel_rfl
def j3d:uG U.j0l 0:=⟨_,by conv=>lhs;simp only[U.j0l,q0c,q0K]⟩
theorem j6x:(Da H).gor 1380352 [t0,t2] m=q0a (Da H) (j3d.1 [t0,t2]) m:=
 q0h z0x (by kernel_rfl) j3d nofun
def z8x:uG U.j0l 1:=⟨_,by conv=>lhs;simp only[U.j0l,q0c,q1c]⟩
theorem z4I:(Da H).gor 1380353 [t0,t2,t4] m=q0a (Da H) (z8x.1 [t0,t2,t4]) m:=
 q0h z0x (by kernel_rfl) z8x nofun
def j3e:uG U.j0l 2:=⟨_,by conv=>lhs;simp only[U.j0l,q0c,q1n]⟩
theorem j6y:(Da H).gor 1380354 [t0,t2,t4] m=q0a (Da H) (j3e.1 [t0,t2,t4]) m:=
 q0h z0x (by kernel_rfl) j3e nofun
def j3f:uG U.j0l 3:=⟨_,by conv=>lhs;simp only[U.j0l,q0c,q1V]⟩
theorem j6z:(Da H).gor 1380355 [t0,t2,t4] m=q0a (Da H) (j3f.1 [t0,t2,t4]) m:=
 q0h z0x (by kernel_rfl) j3f nofun
def j3g:uG U.j0l 4:=⟨_,by conv=>lhs;simp only[U.j0l,q0c,q4j]⟩
theorem j6A:(Da H).gor 1380356 [t2,t4] m=q0a (Da H) (j3g.1 [t2,t4]) m:=
 q0h z0x (by kernel_rfl) j3g nofun
def b6T:uF U.j0l:=⟨_,by conv=>lhs;simp only[U.j0l,q0c]⟩
theorem a9X (h:H 337=none) (a0:AV) (m:Mem):run (Ea H) (.fn 337) [a0] m=q0a (Da H) (b6T.1 [a0]) m:=
 q0t z0x (by kernel_rfl) h b6T nofun
theorem z8R:ckE (U.a0P.en Tryz.func342 rfl rfl)=true:=by kernel_rfl
def j3h:uG U.a0P 0:=⟨_,by conv=>lhs;simp only[U.a0P,q0c,q0K]⟩
theorem j6B:(Da H).gor 1400832 [t2,t3,t4,t5] m=q0a (Da H) (j3h.1 [t2,t3,t4,t5]) m:=
 q0h z8R (by kernel_rfl) j3h nofun
def j3i:uG U.a0P 4:=⟨_,by conv=>lhs;simp only[U.a0P,q0c,q4j]⟩
theorem j6C:(Da H).gor 1400836 [t2,t3,t4,t5,t11,t12,t13,t14] m=q0a (Da H) (j3i.1 [t2,t3,t4,t5,t11,t12,t13,t14]) m:=
 q0h z8R (by kernel_rfl) j3i nofun
def j3j:uG U.a0P 5:=⟨_,by conv=>lhs;simp only[U.a0P,q0c,q6P]⟩
theorem j6D:(Da H).gor 1400837 [t2,t4,t5,t13,t14] m=q0a (Da H) (j3j.1 [t2,t4,t5,t13,t14]) m:=
 q0h z8R (by kernel_rfl) j3j nofun
def b6U:uF U.a0P:=⟨_,by conv=>lhs;simp only[U.a0P,q0c]⟩
theorem a9Y (h:H 342=none) (a0 a1:AV) (m:Mem):run (Ea H) (.fn 342) [a0,a1] m=q0a (Da H) (b6U.1 [a0,a1]) m:=
 q0t z8R (by kernel_rfl) h b6U nofun
theorem q50:ckE (U.q9Z.en Tryz.func343 rfl rfl)=true:=by kernel_rfl
def j3k:uG U.q9Z 0:=⟨_,by conv=>lhs;simp only[U.q9Z,q0c,q0K]⟩
theorem j6E:(Da H).gor 1404928 [t0,t1,t2] m=q0a (Da H) (j3k.1 [t0,t1,t2]) m:=
 q0h q50 (by kernel_rfl) j3k nofun
def z8y:uG U.q9Z 1:=⟨_,by conv=>lhs;simp only[U.q9Z,q0c,q1c]⟩
theorem z4J:(Da H).gor 1404929 [t0,t1,t2] m=q0a (Da H) (z8y.1 [t0,t1,t2]) m:=
 q0h q50 (by kernel_rfl) z8y nofun
def j3l:uG U.q9Z 2:=⟨_,by conv=>lhs;simp only[U.q9Z,q0c,q1n]⟩
theorem j6F:(Da H).gor 1404930 [t0,t1,t2] m=q0a (Da H) (j3l.1 [t0,t1,t2]) m:=
 q0h q50 (by kernel_rfl) j3l nofun
def z2Z:uG U.q9Z 3:=⟨_,by conv=>lhs;simp only[U.q9Z,q0c,q1V]⟩
theorem q9d:(Da H).gor 1404931 [t2,t8,t9,t10,t11,t13,t14,t15,t16] m=q0a (Da H) (z2Z.1 [t2,t8,t9,t10,t11,t13,t14,t15,t16]) m:=
 q0h q50 (by kernel_rfl) z2Z nofun
def z8z:uG U.q9Z 4:=⟨_,by conv=>lhs;simp only[U.q9Z,q0c,q4j]⟩
theorem z4K:(Da H).gor 1404932 [t2,t8,t9,t10,t11,t13,t14,t15,t16] m=q0a (Da H) (z8z.1 [t2,t8,t9,t10,t11,t13,t14,t15,t16]) m:=
 q0h q50 (by kernel_rfl) z8z nofun
def j3m:uG U.q9Z 5:=⟨_,by conv=>lhs;simp only[U.q9Z,q0c,q6P]⟩
theorem j6G:(Da H).gor 1404933 [t2,t8,t9,t10,t11,t13,t14,t15] m=q0a (Da H) (j3m.1 [t2,t8,t9,t10,t11,t13,t14,t15]) m:=
 q0h q50 (by kernel_rfl) j3m nofun
def z3a:uG U.q9Z 6:=⟨_,by conv=>lhs;simp only[U.q9Z,q0c,z0b]⟩
theorem q9e:(Da H).gor 1404934 [t2,t8,t9,t10,t14,t15,t16,t17,t18] m=q0a (Da H) (z3a.1 [t2,t8,t9,t10,t14,t15,t16,t17,t18]) m:=
 q0h q50 (by kernel_rfl) z3a nofun
def z8A:uG U.q9Z 7:=⟨_,by conv=>lhs;simp only[U.q9Z,q0c,j0T]⟩
theorem z4L:(Da H).gor 1404935 [t2,t8,t9,t10,t14,t15,t16,t17,t18] m=q0a (Da H) (z8A.1 [t2,t8,t9,t10,t14,t15,t16,t17,t18]) m:=
 q0h q50 (by kernel_rfl) z8A nofun
def j3n:uG U.q9Z 8:=⟨_,by conv=>lhs;simp only[U.q9Z,q0c,j6R]⟩
theorem j6H:(Da H).gor 1404936 [t2,t8,t14,t15,t17,t18] m=q0a (Da H) (j3n.1 [t2,t8,t14,t15,t17,t18]) m:=
 q0h q50 (by kernel_rfl) j3n nofun
def b6V:uF U.q9Z:=⟨_,by conv=>lhs;simp only[U.q9Z,q0c]⟩
theorem a9Z (h:H 343=none) (a0 a1 a2:AV) (m:Mem):run (Ea H) (.fn 343) [a0,a1,a2] m=q0a (Da H) (b6V.1 [a0,a1,a2]) m:=
 q0t q50 (by kernel_rfl) h b6V nofun
theorem a5m:ckE (U.b2i.en Tryz.func344 rfl rfl)=true:=by kernel_rfl
def j3o:uG U.b2i 0:=⟨_,by conv=>lhs;simp only[U.b2i,q0c,q0K]⟩
theorem j6I:(Da H).gor 1409024 [t1] m=q0a (Da H) (j3o.1 [t1]) m:=
 q0h a5m (by kernel_rfl) j3o nofun
def b5v:uF U.b2i:=⟨_,by conv=>lhs;simp only[U.b2i,q0c]⟩
theorem j4O (h:H 344=none) (a0:AV) (m:Mem):run (Ea H) (.fn 344) [a0] m=q0a (Da H) (b5v.1 [a0]) m:=
 q0t a5m (by kernel_rfl) h b5v nofun
theorem b3s:ckE (U.b5U.en Tryz.func345 rfl rfl)=true:=by kernel_rfl
def b6W:uF U.b5U:=⟨_,by conv=>lhs;simp only[U.b5U,q0c]⟩
theorem a90 (h:H 345=none) (a0 a1:AV) (m:Mem):run (Ea H) (.fn 345) [a0,a1] m=q0a (Da H) (b6W.1 [a0,a1]) m:=
 q0t b3s (by kernel_rfl) h b6W nofun
theorem b3t:ckE (U.b5V.en Tryz.func346 rfl rfl)=true:=by kernel_rfl
def b1O:uF U.b5V:=⟨_,by conv=>lhs;simp only[U.b5V,q0c]⟩
theorem z1D (h:H 346=none) (a0 a1 a2 a3:AV) (m:Mem):run (Ea H) (.fn 346) [a0,a1,a2,a3] m=q0a (Da H) (b1O.1 [a0,a1,a2,a3]) m:=
 q0t b3t (by kernel_rfl) h b1O nofun
theorem z8S:ckE (U.a0Q.en Tryz.func347 rfl rfl)=true:=by kernel_rfl
def j3p:uG U.a0Q 0:=⟨_,by conv=>lhs;simp only[U.a0Q,q0c,q0K]⟩
theorem j6J:(Da H).gor 1421312 [t1,t2,t6] m=q0a (Da H) (j3p.1 [t1,t2,t6]) m:=
 q0h z8S (by kernel_rfl) j3p nofun
def j3q:uG U.a0Q 1:=⟨_,by conv=>lhs;simp only[U.a0Q,q0c,q1c]⟩
theorem j6K:(Da H).gor 1421313 [t1,t2,t6] m=q0a (Da H) (j3q.1 [t1,t2,t6]) m:=
 q0h z8S (by kernel_rfl) j3q nofun
def j3r:uG U.a0Q 2:=⟨_,by conv=>lhs;simp only[U.a0Q,q0c,q1n]⟩
theorem j6L:(Da H).gor 1421314 [t1,t2,t6] m=q0a (Da H) (j3r.1 [t1,t2,t6]) m:=
 q0h z8S (by kernel_rfl) j3r nofun
def b5w:uF U.a0Q:=⟨_,by conv=>lhs;simp only[U.a0Q,q0c]⟩
theorem j4P (h:H 347=none) (a0 a1 a2:AV) (m:Mem):run (Ea H) (.fn 347) [a0,a1,a2] m=q0a (Da H) (b5w.1 [a0,a1,a2]) m:=
 q0t z8S (by kernel_rfl) h b5w nofun
theorem b3u:ckE (U.b5W.en Tryz.func348 rfl rfl)=true:=by kernel_rfl
def b6X:uF U.b5W:=⟨_,by conv=>lhs;simp only[U.b5W,q0c]⟩
theorem a92 (h:H 348=none) (a0:AV) (m:Mem):run (Ea H) (.fn 348) [a0] m=q0a (Da H) (b6X.1 [a0]) m:=
 q0t b3u (by kernel_rfl) h b6X nofun
theorem z8T:ckE (U.a0R.en Tryz.func349 rfl rfl)=true:=by kernel_rfl
def z8B:uG U.a0R 0:=⟨_,by conv=>lhs;simp only[U.a0R,q0c,q0K]⟩
theorem z4M:(Da H).gor 1429504 [t0,t2] m=q0a (Da H) (z8B.1 [t0,t2]) m:=
 q0h z8T (by kernel_rfl) z8B nofun
def z8C:uG U.a0R 1:=⟨_,by conv=>lhs;simp only[U.a0R,q0c,q1c]⟩
theorem z4N:(Da H).gor 1429505 [t0,t2] m=q0a (Da H) (z8C.1 [t0,t2]) m:=
 q0h z8T (by kernel_rfl) z8C nofun
def j3s:uG U.a0R 2:=⟨_,by conv=>lhs;simp only[U.a0R,q0c,q1n,b8c,UInt8.reduceOfNat]⟩
theorem j6M:(Da H).gor 1429506 [t0,t2] m=q0a (Da H) (j3s.1 [t0,t2]) m:=
 q0h z8T (by kernel_rfl) j3s nofun
def b5x:uF U.a0R:=⟨_,by conv=>lhs;simp only[U.a0R,q0c]⟩
theorem j4Q (h:H 349=none) (a0:AV) (m:Mem):run (Ea H) (.fn 349) [a0] m=q0a (Da H) (b5x.1 [a0]) m:=
 q0t z8T (by kernel_rfl) h b5x nofun
theorem j3U:ckE (U.t14.en Tryz.func14 rfl rfl)=true:=by kernel_rfl
def j0r:uG U.t14 0:=⟨_,by conv=>lhs;simp only[U.t14,q0c,q0K]⟩
theorem q8c:(Da H).gor 57344 [t0,t4,t5,t6] m=q0a (Da H) (j0r.1 [t0,t4,t5,t6]) m:=
 q0h j3U (by kernel_rfl) j0r nofun
def q8B:uG U.t14 1:=⟨_,by conv=>lhs;simp only[U.t14,q0c,q1c]⟩
theorem q3o:(Da H).gor 57345 [t0,t4,t5,t6] m=q0a (Da H) (q8B.1 [t0,t4,t5,t6]) m:=
 q0h j3U (by kernel_rfl) q8B nofun
def a6X:uG U.t14 2:=⟨_,by conv=>lhs;simp only[U.t14,q0c,q1n]⟩
theorem a2d:(Da H).gor 57346 [t0,t4,t5,t6] m=q0a (Da H) (a6X.1 [t0,t4,t5,t6]) m:=
 q0h j3U (by kernel_rfl) a6X nofun
def a6Y:uG U.t14 3:=⟨_,by conv=>lhs;simp only[U.t14,q0c,q1V]⟩
theorem a2e:(Da H).gor 57347 [t4,t5] m=q0a (Da H) (a6Y.1 [t4,t5]) m:=
 q0h j3U (by kernel_rfl) a6Y nofun
def F14:uF U.t14:=⟨_,by conv=>lhs;simp only[U.t14,q0c]⟩
theorem b3L (h:H 14=none) (a0 a1:AV) (m:Mem):run (Ea H) (.fn 14) [a0,a1] m=q0a (Da H) (F14.1 [a0,a1]) m:=
 q0t j3U (by kernel_rfl) h F14 nofun
theorem z1o:ckE (U.t15.en Tryz.func15 rfl rfl)=true:=by kernel_rfl
def j2t:uG U.t15 0:=⟨_,by conv=>lhs;simp only[U.t15,q0c,q0K]⟩
theorem z9f:(Da H).gor 61440 [t0,t1,t5,t6,t7] m=q0a (Da H) (j2t.1 [t0,t1,t5,t6,t7]) m:=
 q0h z1o (by kernel_rfl) j2t nofun
def a6Z:uG U.t15 1:=⟨_,by conv=>lhs;simp only[U.t15,q0c,q1c]⟩
theorem a2f:(Da H).gor 61441 [t0,t1,t5,t6,t7] m=q0a (Da H) (a6Z.1 [t0,t1,t5,t6,t7]) m:=
 q0h z1o (by kernel_rfl) a6Z nofun
def a0V:uG U.t15 2:=⟨_,by conv=>lhs;simp only[U.t15,q0c,q1n]⟩
theorem z9g:(Da H).gor 61442 [t0,t1,t5,t6,t7,t8,t9,t10] m=q0a (Da H) (a0V.1 [t0,t1,t5,t6,t7,t8,t9,t10]) m:=
 q0h z1o (by kernel_rfl) a0V nofun
def a7a:uG U.t15 3:=⟨_,by conv=>lhs;simp only[U.t15,q0c,q1V]⟩
theorem a2g:(Da H).gor 61443 [t0,t1,t5,t6,t7,t8,t9,t10] m=q0a (Da H) (a7a.1 [t0,t1,t5,t6,t7,t8,t9,t10]) m:=
 q0h z1o (by kernel_rfl) a7a nofun
def a7b:uG U.t15 4:=⟨_,by conv=>lhs;simp only[U.t15,q0c,q4j]⟩
theorem a2h:(Da H).gor 61444 [t0,t1,t5,t6,t7,t8,t9,t10] m=q0a (Da H) (a7b.1 [t0,t1,t5,t6,t7,t8,t9,t10]) m:=
 q0h z1o (by kernel_rfl) a7b nofun
def a7c:uG U.t15 5:=⟨_,by conv=>lhs;simp only[U.t15,q0c,q6P]⟩
theorem a2i:(Da H).gor 61445 [t0,t1,t5,t6,t7,t8] m=q0a (Da H) (a7c.1 [t0,t1,t5,t6,t7,t8]) m:=
 q0h z1o (by kernel_rfl) a7c nofun
def a7d:uG U.t15 6:=⟨_,by conv=>lhs;simp only[U.t15,q0c,z0b]⟩
theorem a2j:(Da H).gor 61446 [t0,t1,t5,t6,t7] m=q0a (Da H) (a7d.1 [t0,t1,t5,t6,t7]) m:=
 q0h z1o (by kernel_rfl) a7d nofun
def a0W:uG U.t15 7:=⟨_,by conv=>lhs;simp only[U.t15,q0c,j0T]⟩
theorem z9h:(Da H).gor 61447 [t5] m=q0a (Da H) (a0W.1 [t5]) m:=
 q0h z1o (by kernel_rfl) a0W nofun
def F15:uF U.t15:=⟨_,by conv=>lhs;simp only[U.t15,q0c]⟩
theorem b3M (h:H 15=none) (a0 a1:AV) (m:Mem):run (Ea H) (.fn 15) [a0,a1] m=q0a (Da H) (F15.1 [a0,a1]) m:=
 q0t z1o (by kernel_rfl) h F15 nofun
theorem b7a:ckE (U.t16.en Tryz.func16 rfl rfl)=true:=by kernel_rfl
def F16:uF U.t16:=⟨_,by conv=>lhs;simp only[U.t16,q0c]⟩
theorem b3N (h:H 16=none) (a0:AV) (m:Mem):run (Ea H) (.fn 16) [a0] m=q0a (Da H) (F16.1 [a0]) m:=
 q0t b7a (by kernel_rfl) h F16 nofun
theorem j3X:ckE (U.t17.en Tryz.func17 rfl rfl)=true:=by kernel_rfl
def a0X:uG U.t17 0:=⟨_,by conv=>lhs;simp only[U.t17,q0c,q0K]⟩
theorem z9i:(Da H).gor 69632 [t0,t3,t4] m=q0a (Da H) (a0X.1 [t0,t3,t4]) m:=
 q0h j3X (by kernel_rfl) a0X nofun
def a7e:uG U.t17 1:=⟨_,by conv=>lhs;simp only[U.t17,q0c,q1c]⟩
theorem a2k:(Da H).gor 69633 [t0,t3,t4] m=q0a (Da H) (a7e.1 [t0,t3,t4]) m:=
 q0h j3X (by kernel_rfl) a7e nofun
def a7f:uG U.t17 2:=⟨_,by conv=>lhs;simp only[U.t17,q0c,q1n]⟩
theorem a2l:(Da H).gor 69634 [t0,t3,t4] m=q0a (Da H) (a7f.1 [t0,t3,t4]) m:=
 q0h j3X (by kernel_rfl) a7f nofun
def a7g:uG U.t17 3:=⟨_,by conv=>lhs;simp only[U.t17,q0c,q1V]⟩
theorem a2m:(Da H).gor 69635 [t3] m=q0a (Da H) (a7g.1 [t3]) m:=
 q0h j3X (by kernel_rfl) a7g nofun
def F17:uF U.t17:=⟨_,by conv=>lhs;simp only[U.t17,q0c]⟩
theorem b3O (h:H 17=none) (a0:AV) (m:Mem):run (Ea H) (.fn 17) [a0] m=q0a (Da H) (F17.1 [a0]) m:=
 q0t j3X (by kernel_rfl) h F17 nofun
theorem b3e:ckE (U.t18.en Tryz.func18 rfl rfl)=true:=by kernel_rfl
def a7h:uG U.t18 0:=⟨_,by conv=>lhs;simp only[U.t18,q0c,q0K]⟩
theorem a2n:(Da H).gor 73728 [t1,t2] m=q0a (Da H) (a7h.1 [t1,t2]) m:=
 q0h b3e (by kernel_rfl) a7h nofun
def F18:uF U.t18:=⟨_,by conv=>lhs;simp only[U.t18,q0c]⟩
theorem j4B (h:H 18=none) (a0 a1:AV) (m:Mem):run (Ea H) (.fn 18) [a0,a1] m=q0a (Da H) (F18.1 [a0,a1]) m:=
 q0t b3e (by kernel_rfl) h F18 nofun
theorem a3v (h:H 20=some (q7n (.bool true))) (m:Mem):run (Ea H) (.fn 20) [] m=some (.bool true,m):=q1x (h:=q7n (.bool true)) h [] m
theorem q6s:ckE (U.t21.en Tryz.func21 rfl rfl)=true:=by kernel_rfl
def a7i:uG U.t21 0:=⟨_,by conv=>lhs;simp only[U.t21,q0c,q0K]⟩
theorem a2o:(Da H).gor 86016 [t2,t3] m=q0a (Da H) (a7i.1 [t2,t3]) m:=
 q0h q6s (by kernel_rfl) a7i nofun
def a0Y:uG U.t21 1:=⟨_,by conv=>lhs;simp only[U.t21,q0c,q1c]⟩
theorem z9j:(Da H).gor 86017 [t2,t3,t5] m=q0a (Da H) (a0Y.1 [t2,t3,t5]) m:=
 q0h q6s (by kernel_rfl) a0Y nofun
def a7j:uG U.t21 2:=⟨_,by conv=>lhs;simp only[U.t21,q0c,q1n]⟩
theorem a2p:(Da H).gor 86018 [t2,t3,t5] m=q0a (Da H) (a7j.1 [t2,t3,t5]) m:=
 q0h q6s (by kernel_rfl) a7j nofun
def a7k:uG U.t21 3:=⟨_,by conv=>lhs;simp only[U.t21,q0c,q1V]⟩
theorem a2q:(Da H).gor 86019 [t2,t3,t5] m=q0a (Da H) (a7k.1 [t2,t3,t5]) m:=
 q0h q6s (by kernel_rfl) a7k nofun
def a7l:uG U.t21 4:=⟨_,by conv=>lhs;simp only[U.t21,q0c,q4j]⟩
theorem a2r:(Da H).gor 86020 [t2,t3] m=q0a (Da H) (a7l.1 [t2,t3]) m:=
 q0h q6s (by kernel_rfl) a7l nofun
def a0Z:uG U.t21 5:=⟨_,by conv=>lhs;simp only[U.t21,q0c,q6P]⟩
theorem z9k:(Da H).gor 86021 [t2,t3,t6] m=q0a (Da H) (a0Z.1 [t2,t3,t6]) m:=
 q0h q6s (by kernel_rfl) a0Z nofun
def a7m:uG U.t21 6:=⟨_,by conv=>lhs;simp only[U.t21,q0c,z0b]⟩
theorem a2s:(Da H).gor 86022 [t2,t3,t6] m=q0a (Da H) (a7m.1 [t2,t3,t6]) m:=
 q0h q6s (by kernel_rfl) a7m nofun
def a7n:uG U.t21 7:=⟨_,by conv=>lhs;simp only[U.t21,q0c,j0T]⟩
theorem a2t:(Da H).gor 86023 [t2,t3,t6] m=q0a (Da H) (a7n.1 [t2,t3,t6]) m:=
 q0h q6s (by kernel_rfl) a7n nofun
def a7o:uG U.t21 8:=⟨_,by conv=>lhs;simp only[U.t21,q0c,j6R]⟩
theorem a2u:(Da H).gor 86024 [t2,t3] m=q0a (Da H) (a7o.1 [t2,t3]) m:=
 q0h q6s (by kernel_rfl) a7o nofun
def a00:uG U.t21 9:=⟨_,by conv=>lhs;simp only[U.t21,q0c,b4u]⟩
theorem z9l:(Da H).gor 86025 [t2,t3,t7] m=q0a (Da H) (a00.1 [t2,t3,t7]) m:=
 q0h q6s (by kernel_rfl) a00 nofun
def j2I:uG U.t21 10:=⟨_,by conv=>lhs;simp only[U.t21,q0c,b4r]⟩
theorem j5E:(Da H).gor 86026 [t2,t3,t7] m=q0a (Da H) (j2I.1 [t2,t3,t7]) m:=
 q0h q6s (by kernel_rfl) j2I nofun
def j2J:uG U.t21 11:=⟨_,by conv=>lhs;simp only[U.t21,q0c,b4s]⟩
theorem j5F:(Da H).gor 86027 [t2,t3,t7] m=q0a (Da H) (j2J.1 [t2,t3,t7]) m:=
 q0h q6s (by kernel_rfl) j2J nofun
def j2K:uG U.t21 12:=⟨_,by conv=>lhs;simp only[U.t21,q0c,b4t]⟩
theorem j5G:(Da H).gor 86028 [] m=q0a (Da H) (j2K.1 []) m:=
 q0h q6s (by kernel_rfl) j2K nofun
def F21:uF U.t21:=⟨_,by conv=>lhs;simp only[U.t21,q0c]⟩
theorem b3P (h:H 21=none) (a0 a1:AV) (m:Mem):run (Ea H) (.fn 21) [a0,a1] m=q0a (Da H) (F21.1 [a0,a1]) m:=
 q0t q6s (by kernel_rfl) h F21 nofun
theorem q94:ckE (U.t22.en Tryz.func22 rfl rfl)=true:=by kernel_rfl
def a7p:uG U.t22 0:=⟨_,by conv=>lhs;simp only[U.t22,q0c,q0K]⟩
theorem a2v:(Da H).gor 90112 [t0,t1] m=q0a (Da H) (a7p.1 [t0,t1]) m:=
 q0h q94 (by kernel_rfl) a7p nofun
def a01:uG U.t22 1:=⟨_,by conv=>lhs;simp only[U.t22,q0c,q1c]⟩
theorem z9m:(Da H).gor 90113 [t0,t1,t5] m=q0a (Da H) (a01.1 [t0,t1,t5]) m:=
 q0h q94 (by kernel_rfl) a01 nofun
def a7q:uG U.t22 2:=⟨_,by conv=>lhs;simp only[U.t22,q0c,q1n]⟩
theorem a2w:(Da H).gor 90114 [t0,t1,t5] m=q0a (Da H) (a7q.1 [t0,t1,t5]) m:=
 q0h q94 (by kernel_rfl) a7q nofun
def a7r:uG U.t22 3:=⟨_,by conv=>lhs;simp only[U.t22,q0c,q1V]⟩
theorem a2x:(Da H).gor 90115 [t0,t1,t5] m=q0a (Da H) (a7r.1 [t0,t1,t5]) m:=
 q0h q94 (by kernel_rfl) a7r nofun
def a02:uG U.t22 4:=⟨_,by conv=>lhs;simp only[U.t22,q0c,q4j]⟩
theorem z9n:(Da H).gor 90116 [t0,t1,t5,t6] m=q0a (Da H) (a02.1 [t0,t1,t5,t6]) m:=
 q0h q94 (by kernel_rfl) a02 nofun
def a7s:uG U.t22 5:=⟨_,by conv=>lhs;simp only[U.t22,q0c,q6P]⟩
theorem a2y:(Da H).gor 90117 [t0,t1,t5,t6] m=q0a (Da H) (a7s.1 [t0,t1,t5,t6]) m:=
 q0h q94 (by kernel_rfl) a7s nofun
def a7t:uG U.t22 6:=⟨_,by conv=>lhs;simp only[U.t22,q0c,z0b]⟩
theorem a2z:(Da H).gor 90118 [t0,t1,t5,t6] m=q0a (Da H) (a7t.1 [t0,t1,t5,t6]) m:=
 q0h q94 (by kernel_rfl) a7t nofun
def a7u:uG U.t22 7:=⟨_,by conv=>lhs;simp only[U.t22,q0c,j0T]⟩
theorem a2A:(Da H).gor 90119 [t0,t1,t5] m=q0a (Da H) (a7u.1 [t0,t1,t5]) m:=
 q0h q94 (by kernel_rfl) a7u nofun
def a7v:uG U.t22 8:=⟨_,by conv=>lhs;simp only[U.t22,q0c,j6R]⟩
theorem a2B:(Da H).gor 90120 [] m=q0a (Da H) (a7v.1 []) m:=
 q0h q94 (by kernel_rfl) a7v nofun
def F22:uF U.t22:=⟨_,by conv=>lhs;simp only[U.t22,q0c]⟩
theorem b3Q (h:H 22=none) (a0 a1:AV) (m:Mem):run (Ea H) (.fn 22) [a0,a1] m=q0a (Da H) (F22.1 [a0,a1]) m:=
 q0t q94 (by kernel_rfl) h F22 nofun
theorem j30:ckE (U.t24.en Tryz.func24 rfl rfl)=true:=by kernel_rfl
def a03:uG U.t24 0:=⟨_,by conv=>lhs;simp only[U.t24,q0c,q0K]⟩
theorem z9o:(Da H).gor 98304 [t0,t2] m=q0a (Da H) (a03.1 [t0,t2]) m:=
 q0h j30 (by kernel_rfl) a03 nofun
def j0s:uG U.t24 1:=⟨_,by conv=>lhs;simp only[U.t24,q0c,q1c]⟩
theorem q8d:(Da H).gor 98305 [t2,t6,t7,t8] m=q0a (Da H) (j0s.1 [t2,t6,t7,t8]) m:=
 q0h j30 (by kernel_rfl) j0s nofun
def j0t:uG U.t24 2:=⟨_,by conv=>lhs;simp only[U.t24,q0c,q1n]⟩
theorem q8e:(Da H).gor 98306 [t2,t6,t7,t8] m=q0a (Da H) (j0t.1 [t2,t6,t7,t8]) m:=
 q0h j30 (by kernel_rfl) j0t nofun
def a7w:uG U.t24 3:=⟨_,by conv=>lhs;simp only[U.t24,q0c,q1V]⟩
theorem a2C:(Da H).gor 98307 [t2,t6,t7] m=q0a (Da H) (a7w.1 [t2,t6,t7]) m:=
 q0h j30 (by kernel_rfl) a7w nofun
def F24:uF U.t24:=⟨_,by conv=>lhs;simp only[U.t24,q0c]⟩
theorem j4I (h:H 24=none) (a0:AV) (m:Mem):run (Ea H) (.fn 24) [a0] m=q0a (Da H) (F24.1 [a0]) m:=
 q0t j30 (by kernel_rfl) h F24 nofun
theorem b3r:ckE (U.t34.en Tryz.func34 rfl rfl)=true:=by kernel_rfl
def a04:uG U.t34 0:=⟨_,by conv=>lhs;simp only[U.t34,q0c,q0K]⟩
theorem z9p:(Da H).gor 139264 [t0] m=q0a (Da H) (a04.1 [t0]) m:=
 q0h b3r (by kernel_rfl) a04 nofun
def F34:uF U.t34:=⟨_,by conv=>lhs;simp only[U.t34,q0c]⟩
theorem b3R (h:H 34=none) (a0 a1:AV) (m:Mem):run (Ea H) (.fn 34) [a0,a1] m=q0a (Da H) (F34.1 [a0,a1]) m:=
 q0t b3r (by kernel_rfl) h F34 nofun
theorem j33:ckE (U.t65.en Tryz.func65 rfl rfl)=true:=by kernel_rfl
def a7x:uG U.t65 0:=⟨_,by conv=>lhs;simp only[U.t65,q0c,q0K]⟩
theorem a2D:(Da H).gor 266240 [t0,t1,t2] m=q0a (Da H) (a7x.1 [t0,t1,t2]) m:=
 q0h j33 (by kernel_rfl) a7x nofun
def j3t:uG U.t65 1:=⟨_,by conv=>lhs;simp only[U.t65,q0c,q1c]⟩
theorem z1G:(Da H).gor 266241 [t0,t1,t2,t7] m=q0a (Da H) (j3t.1 [t0,t1,t2,t7]) m:=
 q0h j33 (by kernel_rfl) j3t nofun
def a7y:uG U.t65 2:=⟨_,by conv=>lhs;simp only[U.t65,q0c,q1n]⟩
theorem a2E:(Da H).gor 266242 [t0,t1,t2,t7] m=q0a (Da H) (a7y.1 [t0,t1,t2,t7]) m:=
 q0h j33 (by kernel_rfl) a7y nofun
def a7z:uG U.t65 3:=⟨_,by conv=>lhs;simp only[U.t65,q0c,q1V]⟩
theorem a2F:(Da H).gor 266243 [t0,t1,t2,t7] m=q0a (Da H) (a7z.1 [t0,t1,t2,t7]) m:=
 q0h j33 (by kernel_rfl) a7z nofun
def F65:uF U.t65:=⟨_,by conv=>lhs;simp only[U.t65,q0c]⟩
theorem z3L (h:H 65=none) (a0 a1 a2:AV) (m:Mem):run (Ea H) (.fn 65) [a0,a1,a2] m=q0a (Da H) (F65.1 [a0,a1,a2]) m:=
 q0t j33 (by kernel_rfl) h F65 nofun
theorem a8y:ckE (U.t66.en Tryz.func66 rfl rfl)=true:=by kernel_rfl
def j3u:uG U.t66 0:=⟨_,by conv=>lhs;simp only[U.t66,q0c,q0K]⟩
theorem z1H:(Da H).gor 270336 [t0,t1] m=q0a (Da H) (j3u.1 [t0,t1]) m:=
 q0h a8y (by kernel_rfl) j3u nofun
def a7A:uG U.t66 1:=⟨_,by conv=>lhs;simp only[U.t66,q0c,q1c]⟩
theorem a2G:(Da H).gor 270337 [t0,t1] m=q0a (Da H) (a7A.1 [t0,t1]) m:=
 q0h a8y (by kernel_rfl) a7A nofun
def F66:uF U.t66:=⟨_,by conv=>lhs;simp only[U.t66,q0c]⟩
theorem z9a (h:H 66=none) (a0 a1:AV) (m:Mem):run (Ea H) (.fn 66) [a0,a1] m=q0a (Da H) (F66.1 [a0,a1]) m:=
 q0t a8y (by kernel_rfl) h F66 nofun
theorem a1I:ckE (U.t67.en Tryz.func67 rfl rfl)=true:=by kernel_rfl
def j0u:uG U.t67 0:=⟨_,by conv=>lhs;simp only[U.t67,q0c,q0K]⟩
theorem q8f:(Da H).gor 274432 [t0,t5,t7] m=q0a (Da H) (j0u.1 [t0,t5,t7]) m:=
 q0h a1I (by kernel_rfl) j0u nofun
def j3v:uG U.t67 1:=⟨_,by conv=>lhs;simp only[U.t67,q0c,q1c]⟩
theorem z1I:(Da H).gor 274433 [t0,t5,t7] m=q0a (Da H) (j3v.1 [t0,t5,t7]) m:=
 q0h a1I (by kernel_rfl) j3v nofun
def a7B:uG U.t67 2:=⟨_,by conv=>lhs;simp only[U.t67,q0c,q1n]⟩
theorem a2H:(Da H).gor 274434 [t0,t7,t9,t10,t12] m=q0a (Da H) (a7B.1 [t0,t7,t9,t10,t12]) m:=
 q0h a1I (by kernel_rfl) a7B nofun
def F67:uF U.t67:=⟨_,by conv=>lhs;simp only[U.t67,q0c]⟩
theorem z3M (h:H 67=none) (a0 a1 a2:AV) (m:Mem):run (Ea H) (.fn 67) [a0,a1,a2] m=q0a (Da H) (F67.1 [a0,a1,a2]) m:=
 q0t a1I (by kernel_rfl) h F67 nofun
theorem b7b:ckE (U.t68.en Tryz.func68 rfl rfl)=true:=by kernel_rfl
def F68:uF U.t68:=⟨_,by conv=>lhs;simp only[U.t68,q0c]⟩
theorem b3S (h:H 68=none) (a0 a1 a2:AV) (m:Mem):run (Ea H) (.fn 68) [a0,a1,a2] m=q0a (Da H) (F68.1 [a0,a1,a2]) m:=
 q0t b7b (by kernel_rfl) h F68 nofun
theorem j34:ckE (U.t69.en Tryz.func69 rfl rfl)=true:=by kernel_rfl
def j0v:uG U.t69 0:=⟨_,by conv=>lhs;simp only[U.t69,q0c,q0K]⟩
theorem q8g:(Da H).gor 282624 [t0,t5,t7] m=q0a (Da H) (j0v.1 [t0,t5,t7]) m:=
 q0h j34 (by kernel_rfl) j0v nofun
def j3w:uG U.t69 1:=⟨_,by conv=>lhs;simp only[U.t69,q0c,q1c]⟩
theorem z1J:(Da H).gor 282625 [t0,t5,t7] m=q0a (Da H) (j3w.1 [t0,t5,t7]) m:=
 q0h j34 (by kernel_rfl) j3w nofun
def a05:uG U.t69 2:=⟨_,by conv=>lhs;simp only[U.t69,q0c,q1n]⟩
theorem z9q:(Da H).gor 282626 [t0,t5,t7,t9] m=q0a (Da H) (a05.1 [t0,t5,t7,t9]) m:=
 q0h j34 (by kernel_rfl) a05 nofun
def a7C:uG U.t69 3:=⟨_,by conv=>lhs;simp only[U.t69,q0c,q1V]⟩
theorem a2I:(Da H).gor 282627 [t0,t7,t9,t10,t12] m=q0a (Da H) (a7C.1 [t0,t7,t9,t10,t12]) m:=
 q0h j34 (by kernel_rfl) a7C nofun
def F69:uF U.t69:=⟨_,by conv=>lhs;simp only[U.t69,q0c]⟩
theorem z3N (h:H 69=none) (a0 a1 a2:AV) (m:Mem):run (Ea H) (.fn 69) [a0,a1,a2] m=q0a (Da H) (F69.1 [a0,a1,a2]) m:=
 q0t j34 (by kernel_rfl) h F69 nofun
theorem z6D:ckE (U.t70.en Tryz.func70 rfl rfl)=true:=by kernel_rfl
def z3b:uG U.t70 0:=⟨_,by conv=>lhs;simp only[U.t70,q0c,q0K]⟩
theorem q5F:(Da H).gor 286720 [t0,t7,t9,t10] m=q0a (Da H) (z3b.1 [t0,t7,t9,t10]) m:=
 q0h z6D (by kernel_rfl) z3b nofun
def z6o:uG U.t70 1:=⟨_,by conv=>lhs;simp only[U.t70,q0c,q1c]⟩
theorem q6K:(Da H).gor 286721 [t0,t7,t9,t10] m=q0a (Da H) (z6o.1 [t0,t7,t9,t10]) m:=
 q0h z6D (by kernel_rfl) z6o nofun
def j0w:uG U.t70 2:=⟨_,by conv=>lhs;simp only[U.t70,q0c,q1n]⟩
theorem q8h:(Da H).gor 286722 [t0,t7,t9,t10] m=q0a (Da H) (j0w.1 [t0,t7,t9,t10]) m:=
 q0h z6D (by kernel_rfl) j0w nofun
def j3x:uG U.t70 3:=⟨_,by conv=>lhs;simp only[U.t70,q0c,q1V]⟩
theorem z1K:(Da H).gor 286723 [t0,t7,t9,t10] m=q0a (Da H) (j3x.1 [t0,t7,t9,t10]) m:=
 q0h z6D (by kernel_rfl) j3x nofun
def a06:uG U.t70 4:=⟨_,by conv=>lhs;simp only[U.t70,q0c,q4j]⟩
theorem z9r:(Da H).gor 286724 [t0,t7,t9,t10] m=q0a (Da H) (a06.1 [t0,t7,t9,t10]) m:=
 q0h z6D (by kernel_rfl) a06 nofun
def a7D:uG U.t70 5:=⟨_,by conv=>lhs;simp only[U.t70,q0c,q6P]⟩
theorem a2J:(Da H).gor 286725 [t0,t9,t10,t12,t14] m=q0a (Da H) (a7D.1 [t0,t9,t10,t12,t14]) m:=
 q0h z6D (by kernel_rfl) a7D nofun
def F70:uF U.t70:=⟨_,by conv=>lhs;simp only[U.t70,q0c]⟩
theorem q7O (h:H 70=none) (a0 a1 a2 a3:AV) (m:Mem):run (Ea H) (.fn 70) [a0,a1,a2,a3] m=q0a (Da H) (F70.1 [a0,a1,a2,a3]) m:=
 q0t z6D (by kernel_rfl) h F70 nofun
theorem z3z:ckE (U.t71.en Tryz.func71 rfl rfl)=true:=by kernel_rfl
def j0x:uG U.t71 0:=⟨_,by conv=>lhs;simp only[U.t71,q0c,q0K]⟩
theorem q8i:(Da H).gor 290816 [t0,t1,t2,t7] m=q0a (Da H) (j0x.1 [t0,t1,t2,t7]) m:=
 q0h z3z (by kernel_rfl) j0x nofun
def j3y:uG U.t71 1:=⟨_,by conv=>lhs;simp only[U.t71,q0c,q1c]⟩
theorem z1L:(Da H).gor 290817 [t0,t1,t2,t7] m=q0a (Da H) (j3y.1 [t0,t1,t2,t7]) m:=
 q0h z3z (by kernel_rfl) j3y nofun
def a07:uG U.t71 2:=⟨_,by conv=>lhs;simp only[U.t71,q0c,q1n]⟩
theorem z9s:(Da H).gor 290818 [t0,t1,t2,t7] m=q0a (Da H) (a07.1 [t0,t1,t2,t7]) m:=
 q0h z3z (by kernel_rfl) a07 nofun
def a7E:uG U.t71 3:=⟨_,by conv=>lhs;simp only[U.t71,q0c,q1V]⟩
theorem a2K:(Da H).gor 290819 [t0,t1,t2,t7] m=q0a (Da H) (a7E.1 [t0,t1,t2,t7]) m:=
 q0h z3z (by kernel_rfl) a7E nofun
def z6p:uG U.t71 4:=⟨_,by conv=>lhs;simp only[U.t71,q0c,q4j]⟩
theorem q6L:(Da H).gor 290820 [t0,t1,t2,t7,t11] m=q0a (Da H) (z6p.1 [t0,t1,t2,t7,t11]) m:=
 q0h z3z (by kernel_rfl) z6p nofun
def a7F:uG U.t71 5:=⟨_,by conv=>lhs;simp only[U.t71,q0c,q6P]⟩
theorem a2L:(Da H).gor 290821 [t0,t1,t2,t7,t11] m=q0a (Da H) (a7F.1 [t0,t1,t2,t7,t11]) m:=
 q0h z3z (by kernel_rfl) a7F nofun
def a7G:uG U.t71 6:=⟨_,by conv=>lhs;simp only[U.t71,q0c,z0b]⟩
theorem a2M:(Da H).gor 290822 [t0,t1,t2,t7,t11] m=q0a (Da H) (a7G.1 [t0,t1,t2,t7,t11]) m:=
 q0h z3z (by kernel_rfl) a7G nofun
def F71:uF U.t71:=⟨_,by conv=>lhs;simp only[U.t71,q0c]⟩
theorem z0D (h:H 71=none) (a0 a1 a2 a3:AV) (m:Mem):run (Ea H) (.fn 71) [a0,a1,a2,a3] m=q0a (Da H) (F71.1 [a0,a1,a2,a3]) m:=
 q0t z3z (by kernel_rfl) h F71 nofun
theorem b3v:ckE (U.t72.en Tryz.func72 rfl rfl)=true:=by kernel_rfl
def z6q:uG U.t72 0:=⟨_,by conv=>lhs;simp only[U.t72,q0c,q0K]⟩
theorem q6M:(Da H).gor 294912 [t2,t3] m=q0a (Da H) (z6q.1 [t2,t3]) m:=
 q0h b3v (by kernel_rfl) z6q nofun
def F72:uF U.t72:=⟨_,by conv=>lhs;simp only[U.t72,q0c]⟩
theorem z3O (h:H 72=none) (a0:AV) (m:Mem):run (Ea H) (.fn 72) [a0] m=q0a (Da H) (F72.1 [a0]) m:=
 q0t b3v (by kernel_rfl) h F72 nofun
theorem z3A:ckE (U.t73.en Tryz.func73 rfl rfl)=true:=by kernel_rfl
def a08:uG U.t73 0:=⟨_,by conv=>lhs;simp only[U.t73,q0c,q0K]⟩
theorem z9t:(Da H).gor 299008 [t0,t7,t8,t10,t11] m=q0a (Da H) (a08.1 [t0,t7,t8,t10,t11]) m:=
 q0h z3A (by kernel_rfl) a08 nofun
def z6r:uG U.t73 1:=⟨_,by conv=>lhs;simp only[U.t73,q0c,q1c]⟩
theorem q6N:(Da H).gor 299009 [t0,t7,t8,t10,t11,t12,t13] m=q0a (Da H) (z6r.1 [t0,t7,t8,t10,t11,t12,t13]) m:=
 q0h z3A (by kernel_rfl) z6r nofun
def j0y:uG U.t73 2:=⟨_,by conv=>lhs;simp only[U.t73,q0c,q1n]⟩
theorem q8j:(Da H).gor 299010 [t0,t7,t8,t10,t11,t12,t13,t14] m=q0a (Da H) (j0y.1 [t0,t7,t8,t10,t11,t12,t13,t14]) m:=
 q0h z3A (by kernel_rfl) j0y nofun
def j3z:uG U.t73 3:=⟨_,by conv=>lhs;simp only[U.t73,q0c,q1V]⟩
theorem z1M:(Da H).gor 299011 [t0,t7,t8,t10,t11,t13,t14] m=q0a (Da H) (j3z.1 [t0,t7,t8,t10,t11,t13,t14]) m:=
 q0h z3A (by kernel_rfl) j3z nofun
def a09:uG U.t73 4:=⟨_,by conv=>lhs;simp only[U.t73,q0c,q4j]⟩
theorem z9u:(Da H).gor 299012 [t0,t7,t8,t10,t11,t13,t14] m=q0a (Da H) (a09.1 [t0,t7,t8,t10,t11,t13,t14]) m:=
 q0h z3A (by kernel_rfl) a09 nofun
def j0z:uG U.t73 5:=⟨_,by conv=>lhs;simp only[U.t73,q0c,q6P]⟩
theorem q8k:(Da H).gor 299013 [t0,t7,t8,t10,t11,t14,t16] m=q0a (Da H) (j0z.1 [t0,t7,t8,t10,t11,t14,t16]) m:=
 q0h z3A (by kernel_rfl) j0z nofun
def a7H:uG U.t73 6:=⟨_,by conv=>lhs;simp only[U.t73,q0c,z0b]⟩
theorem a2N:(Da H).gor 299014 [t0,t7,t8,t10,t11,t14,t16,t18,t20,t22] m=q0a (Da H) (a7H.1 [t0,t7,t8,t10,t11,t14,t16,t18,t20,t22]) m:=
 q0h z3A (by kernel_rfl) a7H nofun
def F73:uF U.t73:=⟨_,by conv=>lhs;simp only[U.t73,q0c]⟩
theorem z9b (h:H 73=none) (a0 a1 a2 a3:AV) (m:Mem):run (Ea H) (.fn 73) [a0,a1,a2,a3] m=q0a (Da H) (F73.1 [a0,a1,a2,a3]) m:=
 q0t z3A (by kernel_rfl) h F73 nofun
theorem q8P:ckE (U.t74.en Tryz.func74 rfl rfl)=true:=by kernel_rfl
def a7I:uG U.t74 0:=⟨_,by conv=>lhs;simp only[U.t74,q0c,q0K]⟩
theorem a2O:(Da H).gor 303104 [t2] m=q0a (Da H) (a7I.1 [t2]) m:=
 q0h q8P (by kernel_rfl) a7I nofun
def a1a:uG U.t74 1:=⟨_,by conv=>lhs;simp only[U.t74,q0c,q1c]⟩
theorem z9v:(Da H).gor 303105 [t2,t29,t30,t31] m=q0a (Da H) (a1a.1 [t2,t29,t30,t31]) m:=
 q0h q8P (by kernel_rfl) a1a nofun
def q90:uG U.t74 2:=⟨_,by conv=>lhs;simp only[U.t74,q0c,q1n]⟩
theorem q34:(Da H).gor 303106 [t2,t29,t30,t31] m=q0a (Da H) (q90.1 [t2,t29,t30,t31]) m:=
 q0h q8P (by kernel_rfl) q90 nofun
def a7J:uG U.t74 3:=⟨_,by conv=>lhs;simp only[U.t74,q0c,q1V]⟩
theorem a2P:(Da H).gor 303107 [t2,t29,t30,t31] m=q0a (Da H) (a7J.1 [t2,t29,t30,t31]) m:=
 q0h q8P (by kernel_rfl) a7J nofun
def j3A:uG U.t74 4:=⟨_,by conv=>lhs;simp only[U.t74,q0c,q4j]⟩
theorem z1N:(Da H).gor 303108 [t2] m=q0a (Da H) (j3A.1 [t2]) m:=
 q0h q8P (by kernel_rfl) j3A nofun
def a7K:uG U.t74 5:=⟨_,by conv=>lhs;simp only[U.t74,q0c,q6P]⟩
theorem a2Q:(Da H).gor 303109 [t2] m=q0a (Da H) (a7K.1 [t2]) m:=
 q0h q8P (by kernel_rfl) a7K nofun
def j3B:uG U.t74 6:=⟨_,by conv=>lhs;simp only[U.t74,q0c,z0b]⟩
theorem z1O:(Da H).gor 303110 [t2,t76,t77,t78] m=q0a (Da H) (j3B.1 [t2,t76,t77,t78]) m:=
 q0h q8P (by kernel_rfl) j3B nofun
def a1b:uG U.t74 7:=⟨_,by conv=>lhs;simp only[U.t74,q0c,j0T]⟩
theorem z9w:(Da H).gor 303111 [t2,t76,t77,t78] m=q0a (Da H) (a1b.1 [t2,t76,t77,t78]) m:=
 q0h q8P (by kernel_rfl) a1b nofun
def a7L:uG U.t74 8:=⟨_,by conv=>lhs;simp only[U.t74,q0c,j6R]⟩
theorem a2R:(Da H).gor 303112 [t2,t76,t77,t78] m=q0a (Da H) (a7L.1 [t2,t76,t77,t78]) m:=
 q0h q8P (by kernel_rfl) a7L nofun
def a7M:uG U.t74 9:=⟨_,by conv=>lhs;simp only[U.t74,q0c,b4u]⟩
theorem a2S:(Da H).gor 303113 [] m=q0a (Da H) (a7M.1 []) m:=
 q0h q8P (by kernel_rfl) a7M nofun
def F74:uF U.t74:=⟨_,by conv=>lhs;simp only[U.t74,q0c]⟩
theorem z3P (h:H 74=none) (a0 a1:AV) (m:Mem):run (Ea H) (.fn 74) [a0,a1] m=q0a (Da H) (F74.1 [a0,a1]) m:=
 q0t q8P (by kernel_rfl) h F74 nofun
theorem z6E:ckE (U.t75.en Tryz.func75 rfl rfl)=true:=by kernel_rfl
def a7N:uG U.t75 0:=⟨_,by conv=>lhs;simp only[U.t75,q0c,q0K]⟩
theorem a2T:(Da H).gor 307200 [t0] m=q0a (Da H) (a7N.1 [t0]) m:=
 q0h z6E (by kernel_rfl) a7N nofun
def z1d:uG U.t75 1:=⟨_,by conv=>lhs;simp only[U.t75,q0c,q1c]⟩
theorem z9x:(Da H).gor 307201 [t5,t20,t21,t22] m=q0a (Da H) (z1d.1 [t5,t20,t21,t22]) m:=
 q0h z6E (by kernel_rfl) z1d nofun
def z3c:uG U.t75 2:=⟨_,by conv=>lhs;simp only[U.t75,q0c,q1n]⟩
theorem q5G:(Da H).gor 307202 [t5,t20,t21,t22] m=q0a (Da H) (z3c.1 [t5,t20,t21,t22]) m:=
 q0h z6E (by kernel_rfl) z3c nofun
def a7O:uG U.t75 3:=⟨_,by conv=>lhs;simp only[U.t75,q0c,q1V]⟩
theorem a2U:(Da H).gor 307203 [t7,t20,t21,t22] m=q0a (Da H) (a7O.1 [t7,t20,t21,t22]) m:=
 q0h z6E (by kernel_rfl) a7O nofun
def a7P:uG U.t75 4:=⟨_,by conv=>lhs;simp only[U.t75,q0c,q4j]⟩
theorem a2V:(Da H).gor 307204 [t5,t20,t21,t22] m=q0a (Da H) (a7P.1 [t5,t20,t21,t22]) m:=
 q0h z6E (by kernel_rfl) a7P nofun
def a7Q:uG U.t75 5:=⟨_,by conv=>lhs;simp only[U.t75,q0c,q6P]⟩
theorem a2W:(Da H).gor 307205 [] m=q0a (Da H) (a7Q.1 []) m:=
 q0h z6E (by kernel_rfl) a7Q nofun
def F75:uF U.t75:=⟨_,by conv=>lhs;simp only[U.t75,q0c]⟩
theorem z9c (h:H 75=none) (a0 a1:AV) (m:Mem):run (Ea H) (.fn 75) [a0,a1] m=q0a (Da H) (F75.1 [a0,a1]) m:=
 q0t z6E (by kernel_rfl) h F75 nofun
theorem b7c:ckE (U.t76.en Tryz.func76 rfl rfl)=true:=by kernel_rfl
def F76:uF U.t76:=⟨_,by conv=>lhs;simp only[U.t76,q0c]⟩
theorem b3T (h:H 76=none) (m:Mem):run (Ea H) (.fn 76) [] m=q0a (Da H) (F76.1 []) m:=
 q0t b7c (by kernel_rfl) h F76 nofun
theorem b7d:ckE (U.t77.en Tryz.func77 rfl rfl)=true:=by kernel_rfl
def F77:uF U.t77:=⟨_,by conv=>lhs;simp only[U.t77,q0c]⟩
theorem b3U (h:H 77=none) (a0 a1:AV) (m:Mem):run (Ea H) (.fn 77) [a0,a1] m=q0a (Da H) (F77.1 [a0,a1]) m:=
 q0t b7d (by kernel_rfl) h F77 nofun
theorem b7e:ckE (U.t78.en Tryz.func78 rfl rfl)=true:=by kernel_rfl
def F78:uF U.t78:=⟨_,by conv=>lhs;simp only[U.t78,q0c]⟩
theorem b3V (h:H 78=none) (a0 a1:AV) (m:Mem):run (Ea H) (.fn 78) [a0,a1] m=q0a (Da H) (F78.1 [a0,a1]) m:=
 q0t b7e (by kernel_rfl) h F78 nofun
theorem a1J:ckE (U.t79.en Tryz.func79 rfl rfl)=true:=by kernel_rfl
def a1c:uG U.t79 0:=⟨_,by conv=>lhs;simp only[U.t79,q0c,q0K]⟩
theorem z9y:(Da H).gor 323584 [t0,t1] m=q0a (Da H) (a1c.1 [t0,t1]) m:=
 q0h a1J (by kernel_rfl) a1c nofun
def a7R:uG U.t79 1:=⟨_,by conv=>lhs;simp only[U.t79,q0c,q1c]⟩
theorem a2X:(Da H).gor 323585 [t0,t1] m=q0a (Da H) (a7R.1 [t0,t1]) m:=
 q0h a1J (by kernel_rfl) a7R nofun
def a7S:uG U.t79 2:=⟨_,by conv=>lhs;simp only[U.t79,q0c,q1n]⟩
theorem a2Y:(Da H).gor 323586 [t0,t1] m=q0a (Da H) (a7S.1 [t0,t1]) m:=
 q0h a1J (by kernel_rfl) a7S nofun
def F79:uF U.t79:=⟨_,by conv=>lhs;simp only[U.t79,q0c]⟩
theorem b3W (h:H 79=none) (a0 a1:AV) (m:Mem):run (Ea H) (.fn 79) [a0,a1] m=q0a (Da H) (F79.1 [a0,a1]) m:=
 q0t a1J (by kernel_rfl) h F79 nofun
theorem a1K:ckE (U.t80.en Tryz.func80 rfl rfl)=true:=by kernel_rfl
def a1d:uG U.t80 0:=⟨_,by conv=>lhs;simp only[U.t80,q0c,q0K]⟩
theorem z9z:(Da H).gor 327680 [t2,t13,t14,t15] m=q0a (Da H) (a1d.1 [t2,t13,t14,t15]) m:=
 q0h a1K (by kernel_rfl) a1d nofun
def a7T:uG U.t80 1:=⟨_,by conv=>lhs;simp only[U.t80,q0c,q1c]⟩
theorem a2Z:(Da H).gor 327681 [t2,t13,t14,t15] m=q0a (Da H) (a7T.1 [t2,t13,t14,t15]) m:=
 q0h a1K (by kernel_rfl) a7T nofun
def a7U:uG U.t80 2:=⟨_,by conv=>lhs;simp only[U.t80,q0c,q1n]⟩
theorem a3a:(Da H).gor 327682 [t2,t13,t14,t15] m=q0a (Da H) (a7U.1 [t2,t13,t14,t15]) m:=
 q0h a1K (by kernel_rfl) a7U nofun
def F80:uF U.t80:=⟨_,by conv=>lhs;simp only[U.t80,q0c]⟩
theorem b3X (h:H 80=none) (a0 a1 a2:AV) (m:Mem):run (Ea H) (.fn 80) [a0,a1,a2] m=q0a (Da H) (F80.1 [a0,a1,a2]) m:=
 q0t a1K (by kernel_rfl) h F80 nofun
theorem b7f:ckE (U.t81.en Tryz.func81 rfl rfl)=true:=by kernel_rfl
def F81:uF U.t81:=⟨_,by conv=>lhs;simp only[U.t81,q0c]⟩
theorem b3Y (h:H 81=none) (a0 a1 a2:AV) (m:Mem):run (Ea H) (.fn 81) [a0,a1,a2] m=q0a (Da H) (F81.1 [a0,a1,a2]) m:=
 q0t b7f (by kernel_rfl) h F81 nofun
theorem b7g:ckE (U.t82.en Tryz.func82 rfl rfl)=true:=by kernel_rfl
def F82:uF U.t82:=⟨_,by conv=>lhs;simp only[U.t82,q0c]⟩
theorem b3Z (h:H 82=none) (a0 a1:AV) (m:Mem):run (Ea H) (.fn 82) [a0,a1] m=q0a (Da H) (F82.1 [a0,a1]) m:=
 q0t b7g (by kernel_rfl) h F82 nofun
theorem b7h:ckE (U.t83.en Tryz.func83 rfl rfl)=true:=by kernel_rfl
def F83:uF U.t83:=⟨_,by conv=>lhs;simp only[U.t83,q0c]⟩
theorem b30 (h:H 83=none) (a0 a1:AV) (m:Mem):run (Ea H) (.fn 83) [a0,a1] m=q0a (Da H) (F83.1 [a0,a1]) m:=
 q0t b7h (by kernel_rfl) h F83 nofun
theorem a1L:ckE (U.t84.en Tryz.func84 rfl rfl)=true:=by kernel_rfl
def a1e:uG U.t84 0:=⟨_,by conv=>lhs;simp only[U.t84,q0c,q0K]⟩
theorem z9A:(Da H).gor 344064 [t2,t13,t14,t15] m=q0a (Da H) (a1e.1 [t2,t13,t14,t15]) m:=
 q0h a1L (by kernel_rfl) a1e nofun
def a7V:uG U.t84 1:=⟨_,by conv=>lhs;simp only[U.t84,q0c,q1c]⟩
theorem a3b:(Da H).gor 344065 [t2,t13,t14,t15] m=q0a (Da H) (a7V.1 [t2,t13,t14,t15]) m:=
 q0h a1L (by kernel_rfl) a7V nofun
def a7W:uG U.t84 2:=⟨_,by conv=>lhs;simp only[U.t84,q0c,q1n]⟩
theorem a3c:(Da H).gor 344066 [t2,t13,t14,t15] m=q0a (Da H) (a7W.1 [t2,t13,t14,t15]) m:=
 q0h a1L (by kernel_rfl) a7W nofun
def F84:uF U.t84:=⟨_,by conv=>lhs;simp only[U.t84,q0c]⟩
theorem b31 (h:H 84=none) (a0 a1 a2:AV) (m:Mem):run (Ea H) (.fn 84) [a0,a1,a2] m=q0a (Da H) (F84.1 [a0,a1,a2]) m:=
 q0t a1L (by kernel_rfl) h F84 nofun
theorem b7i:ckE (U.t85.en Tryz.func85 rfl rfl)=true:=by kernel_rfl
def F85:uF U.t85:=⟨_,by conv=>lhs;simp only[U.t85,q0c]⟩
theorem b33 (h:H 85=none) (a0 a1 a2:AV) (m:Mem):run (Ea H) (.fn 85) [a0,a1,a2] m=q0a (Da H) (F85.1 [a0,a1,a2]) m:=
 q0t b7i (by kernel_rfl) h F85 nofun
theorem a1M:ckE (U.t86.en Tryz.func86 rfl rfl)=true:=by kernel_rfl
def a1f:uG U.t86 0:=⟨_,by conv=>lhs;simp only[U.t86,q0c,q0K]⟩
theorem z9B:(Da H).gor 352256 [t2,t13,t14,t15] m=q0a (Da H) (a1f.1 [t2,t13,t14,t15]) m:=
 q0h a1M (by kernel_rfl) a1f nofun
def a7X:uG U.t86 1:=⟨_,by conv=>lhs;simp only[U.t86,q0c,q1c]⟩
theorem a3d:(Da H).gor 352257 [t2,t13,t14,t15] m=q0a (Da H) (a7X.1 [t2,t13,t14,t15]) m:=
 q0h a1M (by kernel_rfl) a7X nofun
def a7Y:uG U.t86 2:=⟨_,by conv=>lhs;simp only[U.t86,q0c,q1n]⟩
theorem a3e:(Da H).gor 352258 [t2,t13,t14,t15] m=q0a (Da H) (a7Y.1 [t2,t13,t14,t15]) m:=
 q0h a1M (by kernel_rfl) a7Y nofun
def F86:uF U.t86:=⟨_,by conv=>lhs;simp only[U.t86,q0c]⟩
theorem b34 (h:H 86=none) (a0 a1 a2:AV) (m:Mem):run (Ea H) (.fn 86) [a0,a1,a2] m=q0a (Da H) (F86.1 [a0,a1,a2]) m:=
 q0t a1M (by kernel_rfl) h F86 nofun
theorem b7j:ckE (U.t87.en Tryz.func87 rfl rfl)=true:=by kernel_rfl
def F87:uF U.t87:=⟨_,by conv=>lhs;simp only[U.t87,q0c]⟩
theorem b35 (h:H 87=none) (a0 a1 a2:AV) (m:Mem):run (Ea H) (.fn 87) [a0,a1,a2] m=q0a (Da H) (F87.1 [a0,a1,a2]) m:=
 q0t b7j (by kernel_rfl) h F87 nofun
theorem a1N:ckE (U.t88.en Tryz.func88 rfl rfl)=true:=by kernel_rfl
def a1g:uG U.t88 0:=⟨_,by conv=>lhs;simp only[U.t88,q0c,q0K]⟩
theorem z9C:(Da H).gor 360448 [t2,t13,t14,t15] m=q0a (Da H) (a1g.1 [t2,t13,t14,t15]) m:=
 q0h a1N (by kernel_rfl) a1g nofun
def a7Z:uG U.t88 1:=⟨_,by conv=>lhs;simp only[U.t88,q0c,q1c]⟩
theorem a3f:(Da H).gor 360449 [t2,t13,t14,t15] m=q0a (Da H) (a7Z.1 [t2,t13,t14,t15]) m:=
 q0h a1N (by kernel_rfl) a7Z nofun
def a8a:uG U.t88 2:=⟨_,by conv=>lhs;simp only[U.t88,q0c,q1n]⟩
theorem a3g:(Da H).gor 360450 [t2,t13,t14,t15] m=q0a (Da H) (a8a.1 [t2,t13,t14,t15]) m:=
 q0h a1N (by kernel_rfl) a8a nofun
def F88:uF U.t88:=⟨_,by conv=>lhs;simp only[U.t88,q0c]⟩
theorem b36 (h:H 88=none) (a0 a1 a2:AV) (m:Mem):run (Ea H) (.fn 88) [a0,a1,a2] m=q0a (Da H) (F88.1 [a0,a1,a2]) m:=
 q0t a1N (by kernel_rfl) h F88 nofun
theorem b7k:ckE (U.t89.en Tryz.func89 rfl rfl)=true:=by kernel_rfl
def F89:uF U.t89:=⟨_,by conv=>lhs;simp only[U.t89,q0c]⟩
theorem b37 (h:H 89=none) (a0 a1:AV) (m:Mem):run (Ea H) (.fn 89) [a0,a1] m=q0a (Da H) (F89.1 [a0,a1]) m:=
 q0t b7k (by kernel_rfl) h F89 nofun
theorem a1O:ckE (U.t90.en Tryz.func90 rfl rfl)=true:=by kernel_rfl
def a1h:uG U.t90 0:=⟨_,by conv=>lhs;simp only[U.t90,q0c,q0K]⟩
theorem z9D:(Da H).gor 368640 [t2,t13,t14,t15] m=q0a (Da H) (a1h.1 [t2,t13,t14,t15]) m:=
 q0h a1O (by kernel_rfl) a1h nofun
def a8b:uG U.t90 1:=⟨_,by conv=>lhs;simp only[U.t90,q0c,q1c]⟩
theorem a3h:(Da H).gor 368641 [t2,t13,t14,t15] m=q0a (Da H) (a8b.1 [t2,t13,t14,t15]) m:=
 q0h a1O (by kernel_rfl) a8b nofun
def a8c:uG U.t90 2:=⟨_,by conv=>lhs;simp only[U.t90,q0c,q1n]⟩
theorem a3i:(Da H).gor 368642 [t2,t13,t14,t15] m=q0a (Da H) (a8c.1 [t2,t13,t14,t15]) m:=
 q0h a1O (by kernel_rfl) a8c nofun
def F90:uF U.t90:=⟨_,by conv=>lhs;simp only[U.t90,q0c]⟩
theorem b38 (h:H 90=none) (a0 a1 a2:AV) (m:Mem):run (Ea H) (.fn 90) [a0,a1,a2] m=q0a (Da H) (F90.1 [a0,a1,a2]) m:=
 q0t a1O (by kernel_rfl) h F90 nofun
theorem b7l:ckE (U.t91.en Tryz.func91 rfl rfl)=true:=by kernel_rfl
def F91:uF U.t91:=⟨_,by conv=>lhs;simp only[U.t91,q0c]⟩
theorem b39 (h:H 91=none) (a0 a1:AV) (m:Mem):run (Ea H) (.fn 91) [a0,a1] m=q0a (Da H) (F91.1 [a0,a1]) m:=
 q0t b7l (by kernel_rfl) h F91 nofun
theorem b3w:ckE (U.t92.en Tryz.func92 rfl rfl)=true:=by kernel_rfl
def a8d:uG U.t92 0:=⟨_,by conv=>lhs;simp only[U.t92,q0c,q0K]⟩
theorem a3j:(Da H).gor 376832 [t1] m=q0a (Da H) (a8d.1 [t1]) m:=
 q0h b3w (by kernel_rfl) a8d nofun
def F92:uF U.t92:=⟨_,by conv=>lhs;simp only[U.t92,q0c]⟩
theorem b4a (h:H 92=none) (a0:AV) (m:Mem):run (Ea H) (.fn 92) [a0] m=q0a (Da H) (F92.1 [a0]) m:=
 q0t b3w (by kernel_rfl) h F92 nofun
theorem b7m:ckE (U.t93.en Tryz.func93 rfl rfl)=true:=by kernel_rfl
def F93:uF U.t93:=⟨_,by conv=>lhs;simp only[U.t93,q0c]⟩
theorem b4b (h:H 93=none) (a0:AV) (m:Mem):run (Ea H) (.fn 93) [a0] m=q0a (Da H) (F93.1 [a0]) m:=
 q0t b7m (by kernel_rfl) h F93 nofun
theorem b2X:ckE (U.b5C.en Tryz.func101 rfl rfl)=true:=by kernel_rfl
def b58:uF U.b5C:=⟨_,by conv=>lhs;simp only[U.b5C,q0c]⟩
theorem a8Y (h:H 101=none) (a0:AV) (m:Mem):run (Ea H) (.fn 101) [a0] m=q0a (Da H) (b58.1 [a0]) m:=
 q0t b2X (by kernel_rfl) h b58 nofun
theorem b2Y:ckE (U.b5D.en Tryz.func102 rfl rfl)=true:=by kernel_rfl
def b59:uF U.b5D:=⟨_,by conv=>lhs;simp only[U.b5D,q0c]⟩
theorem a8Z (h:H 102=none) (a0:AV) (m:Mem):run (Ea H) (.fn 102) [a0] m=q0a (Da H) (b59.1 [a0]) m:=
 q0t b2Y (by kernel_rfl) h b59 nofun
theorem b2Z:ckE (U.b5E.en Tryz.func103 rfl rfl)=true:=by kernel_rfl
def b6a:uF U.b5E:=⟨_,by conv=>lhs;simp only[U.b5E,q0c]⟩
theorem a81 (h:H 103=none) (a0:AV) (m:Mem):run (Ea H) (.fn 103) [a0] m=q0a (Da H) (b6a.1 [a0]) m:=
 q0t b2Z (by kernel_rfl) h b6a nofun
theorem a4W:ckE (U.b1W.en Tryz.func104 rfl rfl)=true:=by kernel_rfl
def z7J:uG U.b1W 0:=⟨_,by conv=>lhs;simp only[U.b1W,q0c,q0K]⟩
theorem z3T:(Da H).gor 425984 [t0] m=q0a (Da H) (z7J.1 [t0]) m:=
 q0h a4W (by kernel_rfl) z7J nofun
def b2G:uF U.b1W:=⟨_,by conv=>lhs;simp only[U.b1W,q0c]⟩
theorem z6R (h:H 104=none) (a0:AV) (m:Mem):run (Ea H) (.fn 104) [a0] m=q0a (Da H) (b2G.1 [a0]) m:=
 q0t a4W (by kernel_rfl) h b2G nofun
theorem a4X:ckE (U.b1X.en Tryz.func126 rfl rfl)=true:=by kernel_rfl
def j1V:uG U.b1X 0:=⟨_,by conv=>lhs;simp only[U.b1X,q0c,q0K]⟩
theorem j4S:(Da H).gor 516096 [t2,t3,t4,t5] m=q0a (Da H) (j1V.1 [t2,t3,t4,t5]) m:=
 q0h a4X (by kernel_rfl) j1V nofun
def b2H:uF U.b1X:=⟨_,by conv=>lhs;simp only[U.b1X,q0c]⟩
theorem z6S (h:H 126=none) (a0:AV) (m:Mem):run (Ea H) (.fn 126) [a0] m=q0a (Da H) (b2H.1 [a0]) m:=
 q0t a4X (by kernel_rfl) h b2H nofun
theorem j3T:ckE (U.t127.en Tryz.func127 rfl rfl)=true:=by kernel_rfl
def z7K:uG U.t127 0:=⟨_,by conv=>lhs;simp only[U.t127,q0c,q0K]⟩
theorem z3U:(Da H).gor 520192 [t2,t3,t4] m=q0a (Da H) (z7K.1 [t2,t3,t4]) m:=
 q0h j3T (by kernel_rfl) z7K nofun
def z7L:uG U.t127 1:=⟨_,by conv=>lhs;simp only[U.t127,q0c,q1c]⟩
theorem z3V:(Da H).gor 520193 [t2,t3,t4] m=q0a (Da H) (z7L.1 [t2,t3,t4]) m:=
 q0h j3T (by kernel_rfl) z7L nofun
def b5g:uF U.t127:=⟨_,by conv=>lhs;simp only[U.t127,q0c]⟩
theorem j4x (h:H 127=none) (a0 a1:AV) (m:Mem):run (Ea H) (.fn 127) [a0,a1] m=q0a (Da H) (b5g.1 [a0,a1]) m:=
 q0t j3T (by kernel_rfl) h b5g nofun
theorem b21:ckE (U.b5F.en Tryz.func128 rfl rfl)=true:=by kernel_rfl
def b6b:uF U.b5F:=⟨_,by conv=>lhs;simp only[U.b5F,q0c]⟩
theorem a88 (h:H 128=none) (a0:AV) (m:Mem):run (Ea H) (.fn 128) [a0] m=q0a (Da H) (b6b.1 [a0]) m:=
 q0t b21 (by kernel_rfl) h b6b nofun
theorem z0s:ckE (U.t141.en Tryz.func141 rfl rfl)=true:=by kernel_rfl
def j1W:uG U.t141 0:=⟨_,by conv=>lhs;simp only[U.t141,q0c,q0K]⟩
theorem j4T:(Da H).gor 577536 [t0] m=q0a (Da H) (j1W.1 [t0]) m:=
 q0h z0s (by kernel_rfl) j1W nofun
def z0i:uG U.t141 1:=⟨_,by conv=>lhs;simp only[U.t141,q0c,q1c]⟩
theorem q6E:(Da H).gor 577537 [t0,t3] m=q0a (Da H) (z0i.1 [t0,t3]) m:=
 q0h z0s (by kernel_rfl) z0i nofun
def z2P:uG U.t141 2:=⟨_,by conv=>lhs;simp only[U.t141,q0c,q1n]⟩
theorem q83:(Da H).gor 577538 [t0,t3] m=q0a (Da H) (z2P.1 [t0,t3]) m:=
 q0h z0s (by kernel_rfl) z2P nofun
def z2Q:uG U.t141 3:=⟨_,by conv=>lhs;simp only[U.t141,q0c,q1V]⟩
theorem q84:(Da H).gor 577539 [t0,t3] m=q0a (Da H) (z2Q.1 [t0,t3]) m:=
 q0h z0s (by kernel_rfl) z2Q nofun
def j1X:uG U.t141 4:=⟨_,by conv=>lhs;simp only[U.t141,q0c,q4j]⟩
theorem j4U:(Da H).gor 577540 [] m=q0a (Da H) (j1X.1 []) m:=
 q0h z0s (by kernel_rfl) j1X nofun
def b5h:uF U.t141:=⟨_,by conv=>lhs;simp only[U.t141,q0c]⟩
theorem j4y (h:H 141=none) (a0:AV) (m:Mem):run (Ea H) (.fn 141) [a0] m=q0a (Da H) (b5h.1 [a0]) m:=
 q0t z0s (by kernel_rfl) h b5h nofun
theorem z3p:ckE (U.j1L.en Tryz.func142 rfl rfl)=true:=by kernel_rfl
def z7M:uG U.j1L 0:=⟨_,by conv=>lhs;simp only[U.j1L,q0c,q0K]⟩
theorem z3W:(Da H).gor 581632 [t0,t1,t5] m=q0a (Da H) (z7M.1 [t0,t1,t5]) m:=
 q0h z3p (by kernel_rfl) z7M nofun
def j1Y:uG U.j1L 1:=⟨_,by conv=>lhs;simp only[U.j1L,q0c,q1c]⟩
theorem j4V:(Da H).gor 581633 [t0,t1,t5] m=q0a (Da H) (j1Y.1 [t0,t1,t5]) m:=
 q0h z3p (by kernel_rfl) j1Y nofun
def j1Z:uG U.j1L 2:=⟨_,by conv=>lhs;simp only[U.j1L,q0c,q1n]⟩
theorem j4W:(Da H).gor 581634 [t0,t1,t5] m=q0a (Da H) (j1Z.1 [t0,t1,t5]) m:=
 q0h z3p (by kernel_rfl) j1Z nofun
def j14:uG U.j1L 3:=⟨_,by conv=>lhs;simp only[U.j1L,q0c,q1V]⟩
theorem j4X:(Da H).gor 581635 [] m=q0a (Da H) (j14.1 []) m:=
 q0h z3p (by kernel_rfl) j14 nofun
def b6c:uF U.j1L:=⟨_,by conv=>lhs;simp only[U.j1L,q0c]⟩
theorem a9a (h:H 142=none) (a0 a1:AV) (m:Mem):run (Ea H) (.fn 142) [a0,a1] m=q0a (Da H) (b6c.1 [a0,a1]) m:=
 q0t z3p (by kernel_rfl) h b6c nofun
theorem z3q:ckE (U.t143.en Tryz.func143 rfl rfl)=true:=by kernel_rfl
def z7N:uG U.t143 0:=⟨_,by conv=>lhs;simp only[U.t143,q0c,q0K]⟩
theorem z3X:(Da H).gor 585728 [t0,t1,t5] m=q0a (Da H) (z7N.1 [t0,t1,t5]) m:=
 q0h z3q (by kernel_rfl) z7N nofun
def j15:uG U.t143 1:=⟨_,by conv=>lhs;simp only[U.t143,q0c,q1c]⟩
theorem j4Y:(Da H).gor 585729 [t0,t1,t5] m=q0a (Da H) (j15.1 [t0,t1,t5]) m:=
 q0h z3q (by kernel_rfl) j15 nofun
def j16:uG U.t143 2:=⟨_,by conv=>lhs;simp only[U.t143,q0c,q1n]⟩
theorem j4Z:(Da H).gor 585730 [t0,t1,t5] m=q0a (Da H) (j16.1 [t0,t1,t5]) m:=
 q0h z3q (by kernel_rfl) j16 nofun
def j17:uG U.t143 3:=⟨_,by conv=>lhs;simp only[U.t143,q0c,q1V]⟩
theorem j40:(Da H).gor 585731 [] m=q0a (Da H) (j17.1 []) m:=
 q0h z3q (by kernel_rfl) j17 nofun
def b6d:uF U.t143:=⟨_,by conv=>lhs;simp only[U.t143,q0c]⟩
theorem a9b (h:H 143=none) (a0 a1:AV) (m:Mem):run (Ea H) (.fn 143) [a0,a1] m=q0a (Da H) (b6d.1 [a0,a1]) m:=
 q0t z3q (by kernel_rfl) h b6d nofun
theorem j3V:ckE (U.a6L.en Tryz.func144 rfl rfl)=true:=by kernel_rfl
def z2R:uG U.a6L 0:=⟨_,by conv=>lhs;simp only[U.a6L,q0c,q0K]⟩
theorem q85:(Da H).gor 589824 [t5] m=q0a (Da H) (z2R.1 [t5]) m:=
 q0h j3V (by kernel_rfl) z2R nofun
def j18:uG U.a6L 1:=⟨_,by conv=>lhs;simp only[U.a6L,q0c,q1c]⟩
theorem j41:(Da H).gor 589825 [] m=q0a (Da H) (j18.1 []) m:=
 q0h j3V (by kernel_rfl) j18 nofun
def b1K:uF U.a6L:=⟨_,by conv=>lhs;simp only[U.a6L,q0c]⟩
theorem z1z (h:H 144=none) (a0 a1 a2:AV) (m:Mem):run (Ea H) (.fn 144) [a0,a1,a2] m=q0a (Da H) (b1K.1 [a0,a1,a2]) m:=
 q0t j3V (by kernel_rfl) h b1K nofun
theorem b22:ckE (U.t145.en Tryz.func145 rfl rfl)=true:=by kernel_rfl
def b6e:uF U.t145:=⟨_,by conv=>lhs;simp only[U.t145,q0c]⟩
theorem a9c (h:H 145=none) (a0 a1:AV) (m:Mem):run (Ea H) (.fn 145) [a0,a1] m=q0a (Da H) (b6e.1 [a0,a1]) m:=
 q0t b22 (by kernel_rfl) h b6e nofun
theorem b23:ckE (U.t146.en Tryz.func146 rfl rfl)=true:=by kernel_rfl
def b6f:uF U.t146:=⟨_,by conv=>lhs;simp only[U.t146,q0c]⟩
theorem a9d (h:H 146=none) (a0 a1:AV) (m:Mem):run (Ea H) (.fn 146) [a0,a1] m=q0a (Da H) (b6f.1 [a0,a1]) m:=
 q0t b23 (by kernel_rfl) h b6f nofun
theorem a4Y:ckE (U.b1Y.en Tryz.func147 rfl rfl)=true:=by kernel_rfl
def j19:uG U.b1Y 0:=⟨_,by conv=>lhs;simp only[U.b1Y,q0c,q0K]⟩
theorem j42:(Da H).gor 602112 [t0,t4,t6] m=q0a (Da H) (j19.1 [t0,t4,t6]) m:=
 q0h a4Y (by kernel_rfl) j19 nofun
def b5i:uF U.b1Y:=⟨_,by conv=>lhs;simp only[U.b1Y,q0c]⟩
theorem j4z (h:H 147=none) (a0 a1:AV) (m:Mem):run (Ea H) (.fn 147) [a0,a1] m=q0a (Da H) (b5i.1 [a0,a1]) m:=
 q0t a4Y (by kernel_rfl) h b5i nofun
theorem b24:ckE (U.t148.en Tryz.func148 rfl rfl)=true:=by kernel_rfl
def b6g:uF U.t148:=⟨_,by conv=>lhs;simp only[U.t148,q0c]⟩
theorem a9e (h:H 148=none) (a0 a1:AV) (m:Mem):run (Ea H) (.fn 148) [a0,a1] m=q0a (Da H) (b6g.1 [a0,a1]) m:=
 q0t b24 (by kernel_rfl) h b6g nofun
theorem j3W:ckE (U.a6M.en Tryz.func149 rfl rfl)=true:=by kernel_rfl
def z2S:uG U.a6M 0:=⟨_,by conv=>lhs;simp only[U.a6M,q0c,q0K]⟩
theorem q86:(Da H).gor 610304 [t1] m=q0a (Da H) (z2S.1 [t1]) m:=
 q0h j3W (by kernel_rfl) z2S nofun
def j2a:uG U.a6M 1:=⟨_,by conv=>lhs;simp only[U.a6M,q0c,q1c]⟩
theorem j43:(Da H).gor 610305 [] m=q0a (Da H) (j2a.1 []) m:=
 q0h j3W (by kernel_rfl) j2a nofun
def b1L:uF U.a6M:=⟨_,by conv=>lhs;simp only[U.a6M,q0c]⟩
theorem z1A (h:H 149=none) (a0:AV) (m:Mem):run (Ea H) (.fn 149) [a0] m=q0a (Da H) (b1L.1 [a0]) m:=
 q0t j3W (by kernel_rfl) h b1L nofun
theorem z3r:ckE (U.j1M.en Tryz.func150 rfl rfl)=true:=by kernel_rfl
def z7O:uG U.j1M 0:=⟨_,by conv=>lhs;simp only[U.j1M,q0c,q0K]⟩
theorem z3Y:(Da H).gor 614400 [t0,t1,t2,t7] m=q0a (Da H) (z7O.1 [t0,t1,t2,t7]) m:=
 q0h z3r (by kernel_rfl) z7O nofun
def j2b:uG U.j1M 1:=⟨_,by conv=>lhs;simp only[U.j1M,q0c,q1c]⟩
theorem j44:(Da H).gor 614401 [t0,t1,t2,t7] m=q0a (Da H) (j2b.1 [t0,t1,t2,t7]) m:=
 q0h z3r (by kernel_rfl) j2b nofun
def j2c:uG U.j1M 2:=⟨_,by conv=>lhs;simp only[U.j1M,q0c,q1n]⟩
theorem j45:(Da H).gor 614402 [t0,t1,t2,t7] m=q0a (Da H) (j2c.1 [t0,t1,t2,t7]) m:=
 q0h z3r (by kernel_rfl) j2c nofun
def j2d:uG U.j1M 3:=⟨_,by conv=>lhs;simp only[U.j1M,q0c,q1V]⟩
theorem j46:(Da H).gor 614403 [] m=q0a (Da H) (j2d.1 []) m:=
 q0h z3r (by kernel_rfl) j2d nofun
def b6h:uF U.j1M:=⟨_,by conv=>lhs;simp only[U.j1M,q0c]⟩
theorem a9f (h:H 150=none) (a0 a1 a2:AV) (m:Mem):run (Ea H) (.fn 150) [a0,a1,a2] m=q0a (Da H) (b6h.1 [a0,a1,a2]) m:=
 q0t z3r (by kernel_rfl) h b6h nofun
theorem z8O:ckE (U.a0O.en Tryz.func151 rfl rfl)=true:=by kernel_rfl
def z0j:uG U.a0O 0:=⟨_,by conv=>lhs;simp only[U.a0O,q0c,q0K]⟩
theorem q6F:(Da H).gor 618496 [t2,t3,t4,t6] m=q0a (Da H) (z0j.1 [t2,t3,t4,t6]) m:=
 q0h z8O (by kernel_rfl) z0j nofun
def z7P:uG U.a0O 1:=⟨_,by conv=>lhs;simp only[U.a0O,q0c,q1c]⟩
theorem z3Z:(Da H).gor 618497 [t2,t3,t4,t6] m=q0a (Da H) (z7P.1 [t2,t3,t4,t6]) m:=
 q0h z8O (by kernel_rfl) z7P nofun
def z7Q:uG U.a0O 2:=⟨_,by conv=>lhs;simp only[U.a0O,q0c,q1n]⟩
theorem z4a:(Da H).gor 618498 [t2,t3,t4,t6] m=q0a (Da H) (z7Q.1 [t2,t3,t4,t6]) m:=
 q0h z8O (by kernel_rfl) z7Q nofun
def a0U:uF U.a0O:=⟨_,by conv=>lhs;simp only[U.a0O,q0c]⟩
theorem q59 (h:H 151=none) (a0 a1 a2:AV) (m:Mem):run (Ea H) (.fn 151) [a0,a1,a2] m=q0a (Da H) (a0U.1 [a0,a1,a2]) m:=
 q0t z8O (by kernel_rfl) h a0U nofun
theorem z3s:ckE (U.t152.en Tryz.func152 rfl rfl)=true:=by kernel_rfl
def z7R:uG U.t152 0:=⟨_,by conv=>lhs;simp only[U.t152,q0c,q0K]⟩
theorem z4b:(Da H).gor 622592 [t0,t3] m=q0a (Da H) (z7R.1 [t0,t3]) m:=
 q0h z3s (by kernel_rfl) z7R nofun
def j2e:uG U.t152 1:=⟨_,by conv=>lhs;simp only[U.t152,q0c,q1c]⟩
theorem j47:(Da H).gor 622593 [t0,t3] m=q0a (Da H) (j2e.1 [t0,t3]) m:=
 q0h z3s (by kernel_rfl) j2e nofun
def j2f:uG U.t152 2:=⟨_,by conv=>lhs;simp only[U.t152,q0c,q1n]⟩
theorem j48:(Da H).gor 622594 [t0,t3] m=q0a (Da H) (j2f.1 [t0,t3]) m:=
 q0h z3s (by kernel_rfl) j2f nofun
def j2g:uG U.t152 3:=⟨_,by conv=>lhs;simp only[U.t152,q0c,q1V]⟩
theorem j49:(Da H).gor 622595 [t0] m=q0a (Da H) (j2g.1 [t0]) m:=
 q0h z3s (by kernel_rfl) j2g nofun
def b6i:uF U.t152:=⟨_,by conv=>lhs;simp only[U.t152,q0c]⟩
theorem a9g (h:H 152=none) (a0:AV) (m:Mem):run (Ea H) (.fn 152) [a0] m=q0a (Da H) (b6i.1 [a0]) m:=
 q0t z3s (by kernel_rfl) h b6i nofun
theorem z0t:ckE (U.j0j.en Tryz.func153 rfl rfl)=true:=by kernel_rfl
def q8C:uG U.j0j 0:=⟨_,by conv=>lhs;simp only[U.j0j,q0c,q0K]⟩
theorem q47:(Da H).gor 626688 [t1,t7,t8,t9] m=q0a (Da H) (q8C.1 [t1,t7,t8,t9]) m:=
 q0h z0t (by kernel_rfl) q8C nofun
def z0k:uG U.j0j 1:=⟨_,by conv=>lhs;simp only[U.j0j,q0c,q1c]⟩
theorem q6G:(Da H).gor 626689 [t1,t7,t8,t9] m=q0a (Da H) (z0k.1 [t1,t7,t8,t9]) m:=
 q0h z0t (by kernel_rfl) z0k nofun
def q5V:uG U.j0j 2:=⟨_,by conv=>lhs;simp only[U.j0j,q0c,q1n]⟩
theorem q3b:(Da H).gor 626690 [t1,t4,t5,t7,t8,t9] m=q0a (Da H) (q5V.1 [t1,t4,t5,t7,t8,t9]) m:=
 q0h z0t (by kernel_rfl) q5V nofun
def j2h:uG U.j0j 3:=⟨_,by conv=>lhs;simp only[U.j0j,q0c,q1V]⟩
theorem j5e:(Da H).gor 626691 [t1,t7,t8,t9] m=q0a (Da H) (j2h.1 [t1,t7,t8,t9]) m:=
 q0h z0t (by kernel_rfl) j2h nofun
def j2i:uG U.j0j 4:=⟨_,by conv=>lhs;simp only[U.j0j,q0c,q4j]⟩
theorem j5f:(Da H).gor 626692 [] m=q0a (Da H) (j2i.1 []) m:=
 q0h z0t (by kernel_rfl) j2i nofun
def b6j:uF U.j0j:=⟨_,by conv=>lhs;simp only[U.j0j,q0c]⟩
theorem a9h (h:H 153=none) (a0:AV) (m:Mem):run (Ea H) (.fn 153) [a0] m=q0a (Da H) (b6j.1 [a0]) m:=
 q0t z0t (by kernel_rfl) h b6j nofun
theorem z0u:ckE (U.t154.en Tryz.func154 rfl rfl)=true:=by kernel_rfl
def z7S:uG U.t154 0:=⟨_,by conv=>lhs;simp only[U.t154,q0c,q0K]⟩
theorem z4c:(Da H).gor 630784 [t1,t3,t7,t8,t9] m=q0a (Da H) (z7S.1 [t1,t3,t7,t8,t9]) m:=
 q0h z0u (by kernel_rfl) z7S nofun
def q8D:uG U.t154 1:=⟨_,by conv=>lhs;simp only[U.t154,q0c,q1c]⟩
theorem q48:(Da H).gor 630785 [t1,t3,t7,t8,t9] m=q0a (Da H) (q8D.1 [t1,t3,t7,t8,t9]) m:=
 q0h z0u (by kernel_rfl) q8D nofun
def j2j:uG U.t154 2:=⟨_,by conv=>lhs;simp only[U.t154,q0c,q1n]⟩
theorem j5g:(Da H).gor 630786 [t1,t5,t7,t8,t9] m=q0a (Da H) (j2j.1 [t1,t5,t7,t8,t9]) m:=
 q0h z0u (by kernel_rfl) j2j nofun
def j2k:uG U.t154 3:=⟨_,by conv=>lhs;simp only[U.t154,q0c,q1V]⟩
theorem j5h:(Da H).gor 630787 [t1,t3,t7,t8,t9] m=q0a (Da H) (j2k.1 [t1,t3,t7,t8,t9]) m:=
 q0h z0u (by kernel_rfl) j2k nofun
def j2l:uG U.t154 4:=⟨_,by conv=>lhs;simp only[U.t154,q0c,q4j]⟩
theorem j5i:(Da H).gor 630788 [t1] m=q0a (Da H) (j2l.1 [t1]) m:=
 q0h z0u (by kernel_rfl) j2l nofun
def b6k:uF U.t154:=⟨_,by conv=>lhs;simp only[U.t154,q0c]⟩
theorem a9i (h:H 154=none) (a0:AV) (m:Mem):run (Ea H) (.fn 154) [a0] m=q0a (Da H) (b6k.1 [a0]) m:=
 q0t z0u (by kernel_rfl) h b6k nofun
theorem q5Z:ckE (U.q9Y.en Tryz.func155 rfl rfl)=true:=by kernel_rfl
def z7T:uG U.q9Y 0:=⟨_,by conv=>lhs;simp only[U.q9Y,q0c,q0K]⟩
theorem z4d:(Da H).gor 634880 [t2,t3,t5,t14,t15,t16] m=q0a (Da H) (z7T.1 [t2,t3,t5,t14,t15,t16]) m:=
 q0h q5Z (by kernel_rfl) z7T nofun
def z7U:uG U.q9Y 1:=⟨_,by conv=>lhs;simp only[U.q9Y,q0c,q1c]⟩
theorem z4e:(Da H).gor 634881 [t2,t3,t5,t14,t15,t16] m=q0a (Da H) (z7U.1 [t2,t3,t5,t14,t15,t16]) m:=
 q0h q5Z (by kernel_rfl) z7U nofun
def j2m:uG U.q9Y 2:=⟨_,by conv=>lhs;simp only[U.q9Y,q0c,q1n]⟩
theorem j5j:(Da H).gor 634882 [t2,t3,t5,t14,t15,t16] m=q0a (Da H) (j2m.1 [t2,t3,t5,t14,t15,t16]) m:=
 q0h q5Z (by kernel_rfl) j2m nofun
def j2n:uG U.q9Y 3:=⟨_,by conv=>lhs;simp only[U.q9Y,q0c,q1V]⟩
theorem j5k:(Da H).gor 634883 [t2,t3,t5] m=q0a (Da H) (j2n.1 [t2,t3,t5]) m:=
 q0h q5Z (by kernel_rfl) j2n nofun
def z7V:uG U.q9Y 4:=⟨_,by conv=>lhs;simp only[U.q9Y,q0c,q4j]⟩
theorem z4f:(Da H).gor 634884 [t3,t5,t30,t31,t32] m=q0a (Da H) (z7V.1 [t3,t5,t30,t31,t32]) m:=
 q0h q5Z (by kernel_rfl) z7V nofun
def z7W:uG U.q9Y 5:=⟨_,by conv=>lhs;simp only[U.q9Y,q0c,q6P]⟩
theorem z4g:(Da H).gor 634885 [t3,t5,t30,t31,t32] m=q0a (Da H) (z7W.1 [t3,t5,t30,t31,t32]) m:=
 q0h q5Z (by kernel_rfl) z7W nofun
def z7X:uG U.q9Y 6:=⟨_,by conv=>lhs;simp only[U.q9Y,q0c,z0b]⟩
theorem z4h:(Da H).gor 634886 [t3,t5,t9,t30,t31,t32] m=q0a (Da H) (z7X.1 [t3,t5,t9,t30,t31,t32]) m:=
 q0h q5Z (by kernel_rfl) z7X nofun
def j2o:uG U.q9Y 7:=⟨_,by conv=>lhs;simp only[U.q9Y,q0c,j0T]⟩
theorem j5l:(Da H).gor 634887 [t3,t5,t30,t31,t32] m=q0a (Da H) (j2o.1 [t3,t5,t30,t31,t32]) m:=
 q0h q5Z (by kernel_rfl) j2o nofun
def j2p:uG U.q9Y 8:=⟨_,by conv=>lhs;simp only[U.q9Y,q0c,j6R]⟩
theorem j5m:(Da H).gor 634888 [t5] m=q0a (Da H) (j2p.1 [t5]) m:=
 q0h q5Z (by kernel_rfl) j2p nofun
def b6l:uF U.q9Y:=⟨_,by conv=>lhs;simp only[U.q9Y,q0c]⟩
theorem a9j (h:H 155=none) (a0 a1:AV) (m:Mem):run (Ea H) (.fn 155) [a0,a1] m=q0a (Da H) (b6l.1 [a0,a1]) m:=
 q0t q5Z (by kernel_rfl) h b6l nofun
theorem z0v:ckE (U.t156.en Tryz.func156 rfl rfl)=true:=by kernel_rfl
def j2q:uG U.t156 0:=⟨_,by conv=>lhs;simp only[U.t156,q0c,q0K]⟩
theorem j5n:(Da H).gor 638976 [t1,t3] m=q0a (Da H) (j2q.1 [t1,t3]) m:=
 q0h z0v (by kernel_rfl) j2q nofun
def q6j:uG U.t156 1:=⟨_,by conv=>lhs;simp only[U.t156,q0c,q1c]⟩
theorem z4i:(Da H).gor 638977 [t1,t3,t18,t19,t20] m=q0a (Da H) (q6j.1 [t1,t3,t18,t19,t20]) m:=
 q0h z0v (by kernel_rfl) q6j nofun
def q7H:uG U.t156 2:=⟨_,by conv=>lhs;simp only[U.t156,q0c,q1n]⟩
theorem q4i:(Da H).gor 638978 [t1,t3,t18,t19,t20] m=q0a (Da H) (q7H.1 [t1,t3,t18,t19,t20]) m:=
 q0h z0v (by kernel_rfl) q7H nofun
def j2r:uG U.t156 3:=⟨_,by conv=>lhs;simp only[U.t156,q0c,q1V]⟩
theorem j5o:(Da H).gor 638979 [t1,t3,t18,t19,t20] m=q0a (Da H) (j2r.1 [t1,t3,t18,t19,t20]) m:=
 q0h z0v (by kernel_rfl) j2r nofun
def j2s:uG U.t156 4:=⟨_,by conv=>lhs;simp only[U.t156,q0c,q4j]⟩
theorem j5p:(Da H).gor 638980 [] m=q0a (Da H) (j2s.1 []) m:=
 q0h z0v (by kernel_rfl) j2s nofun
def b5j:uF U.t156:=⟨_,by conv=>lhs;simp only[U.t156,q0c]⟩
theorem j4A (h:H 156=none) (a0:AV) (m:Mem):run (Ea H) (.fn 156) [a0] m=q0a (Da H) (b5j.1 [a0]) m:=
 q0t z0v (by kernel_rfl) h b5j nofun
theorem b25:ckE (U.t157.en Tryz.func157 rfl rfl)=true:=by kernel_rfl
def b6m:uF U.t157:=⟨_,by conv=>lhs;simp only[U.t157,q0c]⟩
theorem a9k (h:H 157=none) (a0:AV) (m:Mem):run (Ea H) (.fn 157) [a0] m=q0a (Da H) (b6m.1 [a0]) m:=
 q0t b25 (by kernel_rfl) h b6m nofun
theorem b26:ckE (U.b5G.en Tryz.func158 rfl rfl)=true:=by kernel_rfl
def b6n:uF U.b5G:=⟨_,by conv=>lhs;simp only[U.b5G,q0c]⟩
theorem a9l (h:H 158=none) (a0 a1:AV) (m:Mem):run (Ea H) (.fn 158) [a0,a1] m=q0a (Da H) (b6n.1 [a0,a1]) m:=
 q0t b26 (by kernel_rfl) h b6n nofun
theorem z8P:ckE (U.t162.en Tryz.func162 rfl rfl)=true:=by kernel_rfl
def z2T:uG U.t162 0:=⟨_,by conv=>lhs;simp only[U.t162,q0c,q0K]⟩
theorem q87:(Da H).gor 663552 [t0,t2,t6] m=q0a (Da H) (z2T.1 [t0,t2,t6]) m:=
 q0h z8P (by kernel_rfl) z2T nofun
def j2u:uG U.t162 1:=⟨_,by conv=>lhs;simp only[U.t162,q0c,q1c]⟩
theorem j5q:(Da H).gor 663553 [t0,t2,t6] m=q0a (Da H) (j2u.1 [t0,t2,t6]) m:=
 q0h z8P (by kernel_rfl) j2u nofun
def j2v:uG U.t162 2:=⟨_,by conv=>lhs;simp only[U.t162,q0c,q1n]⟩
theorem j5r:(Da H).gor 663554 [t0,t2,t6] m=q0a (Da H) (j2v.1 [t0,t2,t6]) m:=
 q0h z8P (by kernel_rfl) j2v nofun
def b6o:uF U.t162:=⟨_,by conv=>lhs;simp only[U.t162,q0c]⟩
theorem a9m (h:H 162=none) (a0 a1 a2:AV) (m:Mem):run (Ea H) (.fn 162) [a0,a1,a2] m=q0a (Da H) (b6o.1 [a0,a1,a2]) m:=
 q0t z8P (by kernel_rfl) h b6o nofun
theorem b27:ckE (U.b5H.en Tryz.func163 rfl rfl)=true:=by kernel_rfl
def b6p:uF U.b5H:=⟨_,by conv=>lhs;simp only[U.b5H,q0c]⟩
theorem a9n (h:H 163=none) (a0 a1:AV) (m:Mem):run (Ea H) (.fn 163) [a0,a1] m=q0a (Da H) (b6p.1 [a0,a1]) m:=
 q0t b27 (by kernel_rfl) h b6p nofun
theorem b28:ckE (U.t164.en Tryz.func164 rfl rfl)=true:=by kernel_rfl
def b6q:uF U.t164:=⟨_,by conv=>lhs;simp only[U.t164,q0c]⟩
theorem a9o (h:H 164=none) (a0:AV) (m:Mem):run (Ea H) (.fn 164) [a0] m=q0a (Da H) (b6q.1 [a0]) m:=
 q0t b28 (by kernel_rfl) h b6q nofun
theorem a4Z:ckE (U.b1Z.en Tryz.func165 rfl rfl)=true:=by kernel_rfl
def j2w:uG U.b1Z 0:=⟨_,by conv=>lhs;simp only[U.b1Z,q0c,q0K]⟩
theorem j5s:(Da H).gor 675840 [t0] m=q0a (Da H) (j2w.1 [t0]) m:=
 q0h a4Z (by kernel_rfl) j2w nofun
def b1M:uF U.b1Z:=⟨_,by conv=>lhs;simp only[U.b1Z,q0c]⟩
theorem z1B (h:H 165=none) (a0 a1:AV) (m:Mem):run (Ea H) (.fn 165) [a0,a1] m=q0a (Da H) (b1M.1 [a0,a1]) m:=
 q0t a4Z (by kernel_rfl) h b1M nofun
theorem b29:ckE (U.b5I.en Tryz.func166 rfl rfl)=true:=by kernel_rfl
def b6r:uF U.b5I:=⟨_,by conv=>lhs;simp only[U.b5I,q0c]⟩
theorem a9p (h:H 166=none) (a0:AV) (m:Mem):run (Ea H) (.fn 166) [a0] m=q0a (Da H) (b6r.1 [a0]) m:=
 q0t b29 (by kernel_rfl) h b6r nofun
theorem b3a:ckE (U.t167.en Tryz.func167 rfl rfl)=true:=by kernel_rfl
def b6s:uF U.t167:=⟨_,by conv=>lhs;simp only[U.t167,q0c]⟩
theorem a9q (h:H 167=none) (a0 a1:AV) (m:Mem):run (Ea H) (.fn 167) [a0,a1] m=q0a (Da H) (b6s.1 [a0,a1]) m:=
 q0t b3a (by kernel_rfl) h b6s nofun
theorem z8Q:ckE (U.t168.en Tryz.func168 rfl rfl)=true:=by kernel_rfl
def z2U:uG U.t168 0:=⟨_,by conv=>lhs;simp only[U.t168,q0c,q0K]⟩
theorem q88:(Da H).gor 688128 [t0,t1] m=q0a (Da H) (z2U.1 [t0,t1]) m:=
 q0h z8Q (by kernel_rfl) z2U nofun
def z2V:uG U.t168 1:=⟨_,by conv=>lhs;simp only[U.t168,q0c,q1c]⟩
theorem q89:(Da H).gor 688129 [t0,t5,t6,t7] m=q0a (Da H) (z2V.1 [t0,t5,t6,t7]) m:=
 q0h z8Q (by kernel_rfl) z2V nofun
def j2x:uG U.t168 2:=⟨_,by conv=>lhs;simp only[U.t168,q0c,q1n]⟩
theorem j5t:(Da H).gor 688130 [t0,t5,t7] m=q0a (Da H) (j2x.1 [t0,t5,t7]) m:=
 q0h z8Q (by kernel_rfl) j2x nofun
def b1N:uF U.t168:=⟨_,by conv=>lhs;simp only[U.t168,q0c]⟩
theorem z1C (h:H 168=none) (a0 a1:AV) (m:Mem):run (Ea H) (.fn 168) [a0,a1] m=q0a (Da H) (b1N.1 [a0,a1]) m:=
 q0t z8Q (by kernel_rfl) h b1N nofun
theorem b3b:ckE (U.b5J.en Tryz.func169 rfl rfl)=true:=by kernel_rfl
def b6t:uF U.b5J:=⟨_,by conv=>lhs;simp only[U.b5J,q0c]⟩
theorem a9r (h:H 169=none) (a0 a1:AV) (m:Mem):run (Ea H) (.fn 169) [a0,a1] m=q0a (Da H) (b6t.1 [a0,a1]) m:=
 q0t b3b (by kernel_rfl) h b6t nofun
theorem b3c:ckE (U.b5K.en Tryz.func170 rfl rfl)=true:=by kernel_rfl
def b6u:uF U.b5K:=⟨_,by conv=>lhs;simp only[U.b5K,q0c]⟩
theorem a9s (h:H 170=none) (a0 a1:AV) (m:Mem):run (Ea H) (.fn 170) [a0,a1] m=q0a (Da H) (b6u.1 [a0,a1]) m:=
 q0t b3c (by kernel_rfl) h b6u nofun
abbrev a0T:=ai @a8q<|ai @a1z<|ai @a8s<|ai @b8O<|ai @b7Y<|ai @b0b<|ai @b7E<|ai @b7M<|ai @b0d<|ai @b0q<|ai @b7G<|ai @a8t<|ai @a1C<|ai @b0p<|ai @b7N<|ai @b62<|ai @j3K<|ai @a1B<|ai @a8p<|ai @b8N<|ai @b7z<|ai @b7O<|ai @a8r<|ai @a1A<|ai @a8v<|ai @b8R<|ai @b7P<|ai @b8r<|ai @b0r<|ai @b0s<|ai @ld4<|ai @b67<|ai @b4j<|ai @ld3<|ai @b4i<|ai @b8S<|ai @j3J<|ai @b8s<|ai @b0e<|ai @b7J<|ai @ld9<|ai @b8E<|ai @b4c<|ai @b8K<|ai @b7V<|ai @b4g<|ai @b4h<|ai @ld2<|ai @b0x<|ai @b0y<|ai @b0u<|ai @b0v<|ai @b8P<|ai @b3F<|ai @b3B<|ai @b8Y<|ai @b0w<|ai @b8Q<|ai @b3A<|ai @ld5<|ai @b8H<|ai @j3L<|ai @b3G<|ai @a8E<|ai @b7Q<|ai @b8T<|ai @b4k<|ai @b4l<|ai @b4m<|ai @b8t<|ai @b3H<|ai @b7o<|ai @bn4<|ai @b3D<|ai @be4<|ai @b7R<|ai @b7A<|ai @b7S<|ai @iv9<|ai @b3C<|ai @b7T<|ai @a95<|ai @a96<|ai @a94<|ai @a97<|ai @b7D<|ai @b8C<|ai @b7w<|ai @b4n<|ai @b8u<|ai @b7U<|ai @a98<|ai @a99<|ai @b0a<|ai @b61<|ai @b8D<|ai @b7F<|ai @b4d<|ai @b4e<|ai @b8L<|ai @b8M<|ai @b4f<|ai @b7H<|ai @b8q<|ai @b9y<|ai @b7W<|ai @b7K<|ai @b8F<|ai @b7X<|ai @b7L<|ai @b8G<|ai @b4L<|ai @b7x<|ai @b66<|ai @b63<|ai @b8W<|ai @b4o<|ai @b65<|ai @b0n<|ai @b0o<|ai @b0g<|ai @b0j<|ai @b0h<|ai @b0i<|ai @b64<|ai @b8X<|ai @b0f<|ai @b0k<|ai @b0l<|ai @b68<|ai @b0t<|ai @b7I<|ai @b7n<|ai @b0m<|ai @b0c<|ai @b3E<|ai @b69<|ai @b8J<|ai @b8U<|ai @aps<|ai @q4b<|ai @obs<|ai @Int.ofNat_eq_natCast<|ai @Int.cast_ofNat_Int @ips
abbrev w_5:=ai @a0T @ge
abbrev q0f:=ai @a0T<|ai @Nat.zero_add<|ai @Nat.add_zero @ge
abbrev q0r:=ai @a0T<|ai @ge<|ai @b4P<|ai @b4Q<|ai @b4R<|ai @b4S<|ai @Nat.zero_add<|ai @Nat.add_zero<|ai @lcs<|ai @oms @ift
abbrev q1P:=ai @a0T<|ai @b4P<|ai @b4Q<|ai @b4R @b4S
abbrev q0y:=@a0T
abbrev q4f:=ai @a0T<|ai @b4P<|ai @b4Q<|ai @b4R<|ai @b4S<|ai @lcs<|ai @oms<|ai @Nat.zero_add<|ai @ift @ge
abbrev a0F:=ai @a0T<|ai @b4P<|ai @b4Q<|ai @b4R<|ai @b4S<|ai @Nat.zero_add<|ai @Nat.add_zero @ge
abbrev a0G:=ai @a0T<|ai @lcs<|ai @oms<|ai @Nat.zero_add<|ai @ift @ge
abbrev b1z:=ai @a0T<|ai @ge<|ai @b4P<|ai @b4Q<|ai @b4R @b4S
abbrev q1M:=ai @a0T<|ai @lcs<|ai @oms<|ai @Nat.zero_add<|ai @ift<|ai @ge @Nat.add_zero
end
end Go.Proofs.YtkbhcgifnnhbaaaGreatDoor
